/- Types as they are drawn. No conditions. -/
import Derived.Test.YtbmgbhfeifgciaaDoorG10
import Derived.Shelf.Strings.Repeat
import Derived.Test.YtbmgbhfeifgciaaDoorProg
import Derived.Shelf.Strconv.Atoi
import Derived.Shelf.Strconv.Itoa3
import Derived.Laws.Small

namespace Go.Proofs.YtbmgbhfeifgciaaDoor
set_option maxRecDepth 100000
set_option linter.unusedVariables false
set_option linter.unusedSimpArgs false

def DT (b : Nat) (oa : Option Addr) (l : List UInt8) (c p K B : Nat) (L : At) : A5 := fun v I' L' => ∃ s p', v = .string (str s) ∧ List.length s ≤ B ∧ p ≤ p' ∧ p' ≤ p + K ∧ L' = rd b oa l c p' :: L
def kT : Nat → Nat
 | 0 => 0
 | d + 1 => 2 + 2 * kT d
def bT : Nat → Nat
 | 0 => 1
 | d + 1 => 5 + 2 * bT d
def Gy (n : Nat) : Af := if n < 10 then [UInt8.ofNat (48 + n)] else Gy (n / 10) ++ [UInt8.ofNat (48 + n % 10)]
theorem Fl {n : Nat} (h : n < 10) : Gy n = [UInt8.ofNat (48 + n)] := by rw [Gy, if_pos h]
theorem F6 {n : Nat} (h : ¬ n < 10) : Gy n = Gy (n / 10) ++ [UInt8.ofNat (48 + n % 10)] := by rw [Gy, if_neg h]
section rules
variable {P : Program} {f : FuncId} {n : Nat} {I₀ : Heap} {Q : A5} {k : List Item} {E : D3} {I : Heap} {L : At}
variable {ops : Array Oper} {d : Nat} {ty : TypeId} {pos : String} {af : Array Edge} {g : Option (Nat × Bool)} {l : List Oper}
theorem Q5 {m : Int} (h : 0 ≤ m ∧ m < 256) : IntKind.u8.wrap m = m := by
 simp [IntKind.wrap, IntKind.bits, IntKind.signed]; omega
theorem Kl {S : World → Prop} {src dst sz bb sz2 bb2 : Nat} {z z2 : List Value} [hs : Ae P src (.int .i64) sz bb z] [hd : Ae P dst (.int .u8) sz2 bb2 z2] {x : Operand} {a : Nat} (hx : Au E x = some (.int .i64 (a : Nat))) (ha : a < 256) :
  Dz P E S ⟨some d, .convert src dst x, ty, pos, af, g⟩ (.int .u8 (a : Nat)) := fun ac w he _ => by
 simp only [execOp, he.eval hx]
 refine Ab (a := .int .u8 (a : Nat)) (w' := w) ?_ |>.trans rfl
 unfold convert
 rw [Ab (Ao hs.und w), Ab (Ao hd.und w)]
 simp only [Conv.intToInt]
 rw [Q5 (by omega)]
 rfl
theorem N9 {src dst sz bb sz2 bb2 : Nat} {z z2 : List Value} [hs : Ae P src (.int .i64) sz bb z] [hd : Ae P dst (.int .u8) sz2 bb2 z2] {x : Operand} {a : Nat} (hx : Au E x = some (.int .i64 (a : Nat))) (ha : a < 256) (hg : Wants ops E g) (hdn : Nat.blt d n = true)
  (h : Ah P f n I₀ Q ops l k ((d, .int .u8 (a : Nat)) :: E) I L) : Ah P f n I₀ Q ops (⟨some d, .convert src dst x, ty, pos, af, g⟩ :: l) k E I L := Bi (Kl hx ha) hg hdn h
theorem Gr {src dst e sz bb sz2 bb2 sz3 bb3 : Nat} {z z2 z3 : List Value} [hs : Ae P src (.slice e) sz bb z] [he : Ae P e (.int .u8) sz3 bb3 z3] [hd : Ae P dst .string sz2 bb2 z2] {x : Operand} {ad : Addr} {c a : Nat} (hx : Au E x = some (.slice (some ad) 1 c)) (hr : Do I L ad [.int .u8 (a : Nat)]) :
  Dz P E (Mem I L) ⟨some d, .convert src dst x, ty, pos, af, g⟩ (.string (str [UInt8.ofNat a])) := fun ac w he' hm => by
 simp only [execOp, he'.eval hx]
 refine Ab (a := .string (str [UInt8.ofNat a])) (w' := w) ?_ |>.trans rfl
 unfold convert
 rw [Ab (Ao hs.und w), Ab (Ao hd.und w)]
 simp only []
 rw [Ab (Ao he.und w)]
 simp only [Conv.bytesToString]
 have hl : (loadCells ad 1).run P w = .ok [Value.int .u8 (a : Nat)].toArray w := Fc [.int .u8 (a : Nat)] (hr w hm)
 rw [Ab hl]
 rfl
end rules
theorem Nk {n : Nat} (h : n ≤ 1000000000) : (Gy n).length ≤ 12 := by
 have key : ∀ (k m : Nat), m < 10 ^ (k + 1) → (Gy m).length ≤ k + 1 := by
  intro k
  induction k with
  | zero => intro m hm; rw [Fl (by omega)]; simp
  | succ k ih =>
   intro m hm
   by_cases h1 : m < 10
   ·rw [Fl h1]; simp
   ·rw [F6 h1, List.length_append]
    have := ih (m / 10) (by rw [Nat.pow_succ] at hm; omega)
    simp only [List.length_cons, List.length_nil]; omega
 exact Nat.le_trans (key 10 n (by omega)) (by decide)
theorem Qm : ∀ (k n : Nat) (_ : n < k) (_ : n ≤ 1000000000) (I : Heap) (L : At), Fun Tryd.prog 44 [.int .i64 (n : Nat)] I L (Cr (.string (str (Gy n))) I L) := by
 intro k
 induction k with
 | zero => intro n h; omega
 | succ k ihk =>
  intro n hlt hn I L; refine Ag (by simp) ?_; refine Se rfl (Oa rfl (Aa (Ai (Se rfl (Om rfl (Oc rfl rfl rfl (Aa ?_)))))))
  first | refine Sf rfl (by omega) ?_ | refine Cw (by simp [A8, Au, *]) ?_
  refine Aj (Ai (Se rfl (Om rfl (Oc rfl rfl rfl (Aa ?_)))))
  first | refine Sf rfl (by omega) ?_ | refine Cw (by simp [A8, Au, *]) ?_
  refine Aj (Ai (Se rfl (Om rfl (Oc rfl rfl rfl (Aa ?_))))); refine Am rfl ?_ ?_
  ·intro c2
   try simp only [nb] at c2
   refine Ai ?_
   have h10 : n < 10 := by omega
   refine Ap rfl (Om rfl ?_); refine Or rfl rfl rfl ?_; refine I8 (t := 14) (v' := .int .i64 ((48 + n : Nat))) rfl (by congr 1) ?_; refine N9 rfl (by omega) .free rfl ?_; refine Ol rfl rfl ?_; intro b16; refine Bi (Gr rfl (Cv (by repeat first | exact .head _ | apply List.Mem.tail | apply List.mem_append_right) (by rfl))) .free rfl ?_; refine Oa rfl (Aa (Ac (.tmp rfl .nil) ?_)); refine only rfl ?_; rw [Fl h10]; rfl
  intro c2
  try simp only [nb] at c2
  refine Aj (Ai ?_)
  have h10 : ¬ n < 10 := by omega
  obtain ⟨q, hq, hq2⟩ : ∃ q, q = n / 10 ∧ q < n := ⟨_, rfl, by omega⟩; obtain ⟨r, hr, hr2⟩ : ∃ r, r = n % 10 ∧ r < 10 := ⟨_, rfl, Nat.mod_lt _ (by omega)⟩
  have hdl := Nk (n := q) (by omega)
  refine Fu 11 rfl rfl ?_; refine Da 0 rfl (Ay rfl) ?_; refine Da 1 rfl (Qc (b := 10) rfl rfl (by omega) (by omega)) ?_; refine Iu (t := 19) (v' := .int .i64 (q : Nat)) rfl (by rw [hq]) ?_; refine Da 3 rfl (Ay rfl) ?_; refine Da 4 rfl (Nw (b := 10) rfl rfl (by omega)) ?_; refine Iu (t := 22) (v' := .int .i64 (r : Nat)) rfl (by rw [hr]) ?_; refine Da 5 rfl (Dj rfl rfl rfl (by omega)) ?_; refine Iu (t := 23) (v' := .int .i64 ((48 + r : Nat))) rfl (by congr 1) ?_; refine Da 6 rfl (Kl rfl (by omega)) ?_; refine Rb 2 7 (by kernel_rfl) ?_ ?_
  ·skip
   refine Ph 2 rfl rfl rfl .free rfl (ihk q (by omega) (by omega) _ _) ?_; rintro _ _ _ _ ⟨rfl, rfl, rfl⟩; refine Hx ?_; refine Rn 7 rfl (by kernel_rfl) rfl rfl rfl (by rfl) (by rfl) (by rfl) (by decide) (by decide) (by rfl) .free rfl (.inr Cm) ?_; intro b25; refine Rc 8 rfl (by kernel_rfl) rfl (Gr rfl (Cv (by repeat first | exact .head _ | apply List.Mem.tail | apply List.mem_append_right) (by rfl))) .free rfl (.inr Cm) ?_; refine Da 9 rfl (Yk rfl rfl) ?_; refine Da 10 rfl (Bd rfl) ?_; refine Dk (by kernel_rfl) ?_; refine Ac (.tmp rfl .nil) ?_; refine only rfl ?_; rw [F6 h10, ← hq, ← hr]; rfl
  ·skip
   refine Rq 7 rfl rfl rfl rfl (by rfl) (by rfl) (by rfl) (by decide) (by decide) (by rfl) .free rfl (.inr Cm) ?_; intro b25; refine Rb 2 8 (by kernel_rfl) ?_ ?_
   ·skip
    refine Ph 2 rfl rfl rfl .free rfl (ihk q (by omega) (by omega) _ _) ?_; rintro _ _ _ _ ⟨rfl, rfl, rfl⟩; refine Hx ?_; refine Rc 8 rfl (by kernel_rfl) rfl (Gr rfl (Cv (by repeat first | exact .head _ | apply List.Mem.tail | apply List.mem_append_right) (by rfl))) .free rfl (.inr Cm) ?_; refine Da 9 rfl (Yk rfl rfl) ?_; refine Da 10 rfl (Bd rfl) ?_; refine Dk (by kernel_rfl) ?_; refine Ac (.tmp rfl .nil) ?_; refine only rfl ?_; rw [F6 h10, ← hq, ← hr]; rfl
   ·skip
    refine Sr 8 rfl rfl (Gr rfl (Cv (by repeat first | exact .head _ | apply List.Mem.tail | apply List.mem_append_right) (by rfl))) .free rfl (.inr Cm) ?_; refine Dc 2 rfl rfl (ihk q (by omega) (by omega) _ _) ?_; rintro _ _ _ _ ⟨rfl, rfl, rfl⟩; refine Hx ?_; refine Da 9 rfl (Yk rfl rfl) ?_; refine Da 10 rfl (Bd rfl) ?_; refine Dk (by kernel_rfl) ?_; refine Ac (.tmp rfl .nil) ?_; refine only rfl ?_; rw [F6 h10, ← hq, ← hr]; rfl
def Ex.value : Ex → Bool
 | .num _ => true
 | .fn _ _ _ _ _ => true
 | .bin .pair a b => a.value && b.value
 | _ => false
def Ex.print : Ex → Tree
 | .bin .pair a b => .node [] [.node Mj [], a.print, b.print]
 | .fn _ _ _ _ _ => .node P5 []
 | e => e.tree
def Q4 (s : Af) : Option Ex := match F5 s with
 | some e => if e.value = true then some e else none
 | none => none
def Ta (s : Af) : Option Af := (Q4 s).map fun e => e.print.text
def Ty.sample : Ty → Ex
 | .i => .num [48]
 | .pr a b => .bin .pair a.sample b.sample
 | .fn a b => .fn [102] [120] a b b.sample
def Ex.txt (e : Ex) : Af := e.tree.text
def Uf (s : Af) : Option Af := match P9 s with
 | some t => if t.sample.fine = true then some t.sample.tree.text else none
 | none => none
def Un (t : Tree) : Ex := (t.ty.getD .i).sample
structure ScAt (I : Heap) (ns ts : List Af) (oa : Option Addr) (c : Nat) (ob : Option Addr) (c' : Nat) : Prop where
 names : Strs I oa ns c
 types : Strs I ob ts c'
 len : ns.length = ts.length
 nb : ∀ s ∈ ns, s.length ≤ 4
 tb : ∀ s ∈ ts, s.length ≤ 1000
theorem ScAt.mono {I I' : Heap} (hle : HLe I I') {ns ts : List Af} {oa : Option Addr} {c : Nat} {ob : Option Addr} {c' : Nat} (h : ScAt I ns ts oa c ob c') : ScAt I' ns ts oa c ob c' :=
 ⟨h.names.mono hle, h.types.mono hle, h.len, h.nb, h.tb⟩
def Uk (ns ts : List Af) (L : At) : A5 := fun v I' L' => ∃ oa c ob c', v = .agg [.slice oa (List.length ns) c, .slice ob (List.length ts) c'].toArray ∧ ScAt I' ns ts oa c ob c' ∧ L = L'
structure Ui where
 i : Nat
 fs : List Af
 b : Nat
 sp : List Value
 c : Nat
def kE : Nat → Nat
 | 0 => 4
 | d + 1 => 3 * kE d + 60
def eT : Nat → Nat
 | 0 => 3300
 | d + 1 => 3 * eT d + 3000
mutual
def Tree.atomL : Tree → List Af
 | .node a [] => [a]
 | .node _ (p :: ps) => p.atomL ++ Hm ps
def Hm : List Tree → List Af
 | [] => []
 | t :: ts => t.atomL ++ Hm ts
end
mutual
def Tree.repl : Tree → Af → Tree → Tree
 | .node x [], a, b => if x = a then b else .node x []
 | .node x (p :: ps), a, b => .node x (p.repl a b :: Jd ps a b)
def Jd : List Tree → Af → Tree → List Tree
 | [], _, _ => []
 | t :: ts, a, b => t.repl a b :: Jd ts a b
end
mutual
theorem Tree.atomL_len : ∀ t : Tree, t.atomL.length = t.size
 | .node a [] => rfl
 | .node a (p :: ps) => by
  have h1 := p.atomL_len; have h2 := Ir ps
  simp only [Tree.atomL, List.length_append, h1, h2, Tree.size, E4, List.isEmpty_cons, cond_false]
theorem Ir : ∀ ts : List Tree, (Hm ts).length = E4 ts
 | [] => rfl
 | t :: ts => by have h1 := t.atomL_len; have h2 := Ir ts; simp only [Hm, List.length_append, h1, h2, E4]
end
mutual
theorem Tree.repl_good : ∀ {t : Tree} {a : Af} {b : Tree}, t.good = true → b.good = true → (t.repl a b).good = true
 | .node x [], a, b, h, hb => by simp only [Tree.repl]; split; exact hb; exact h
 | .node x (p :: ps), a, b, h, hb => by
  obtain ⟨h1, h2, h3⟩ := J8 h; subst h1
  simp [Tree.repl, Tree.good, Dr, Tree.repl_good h2 hb, Je h3 hb]
theorem Je : ∀ {ps : List Tree} {a : Af} {b : Tree}, Dr ps = true → b.good = true → Dr (Jd ps a b) = true
 | [], a, b, h, hb => rfl
 | t :: ps, a, b, h, hb => by
  simp [Dr] at h
  simp [Jd, Dr, Tree.repl_good h.1 hb, Je h.2 hb]
end
mutual
theorem Tree.repl_len : ∀ (t : Tree) (a : Af) (b : Tree), (t.repl a b).len ≤ t.len + t.size * b.len
 | .node x [], a, b => by simp only [Tree.repl, Tree.size, List.isEmpty_nil, cond_true, Nat.one_mul]; split <;> omega
 | .node x (p :: ps), a, b => by
  have h1 := p.repl_len a b; have h2 := Kf ps a b
  simp only [Tree.repl, Tree.len, Tree.size, Df, E4, List.isEmpty_cons, cond_false, Nat.add_mul]; omega
theorem Kf : ∀ (ps : List Tree) (a : Af) (b : Tree), Df (Jd ps a b) ≤ Df ps + E4 ps * b.len
 | [], a, b => by simp [Jd, Df, E4]
 | t :: ps, a, b => by
  have h1 := t.repl_len a b; have h2 := Kf ps a b
  simp only [Jd, Df, E4, Nat.add_mul]; omega
end
mutual
theorem Tree.atom_len : ∀ (t : Tree) (x : Af), x ∈ t.atomL → x.length ≤ t.len
 | .node a [], x, h => by
  simp only [Tree.atomL, List.mem_singleton] at h
  subst h; simp [Tree.len]
 | .node a (p :: ps), x, h => by
  simp only [Tree.atomL, List.mem_append] at h
  simp only [Tree.len, Df, List.isEmpty_cons, cond_false]
  rcases h with h | h
  ·have := p.atom_len x h; omega
  ·have := F4 ps x h; omega
theorem F4 : ∀ (ts : List Tree) (x : Af), x ∈ Hm ts → x.length ≤ Df ts
 | [], x, h => by cases h
 | t :: ts, x, h => by
  simp only [Hm, List.mem_append] at h
  simp only [Df]
  rcases h with h | h
  ·have := t.atom_len x h; omega
  ·have := F4 ts x h; omega
end
def S4 (s : Af) : Option (List Af) := (Bv s).map fun t => Ko [] t.atomL
def Tu (s a b : Af) : Option Af := match Bv s, Bv a, Bv b with
 | some t, some x, some y => if x.atom ≠ [] ∧ (Bv (t.repl a y).text).isSome = true then some (t.repl a y).text else none
 | _, _, _ => none
structure GA where
 i : Nat
 l : List Af
 B : Hl
 c : Nat
structure GP where
 J : Heap
 i : Nat
 xs : List Value
 B : Hl
 c : Nat
def DX (L : At) : A5 := fun v I' L' => ∃ s, v = .string (str s) ∧ List.length s ≤ 400001 ∧ L = L'
theorem I3 {I : Heap} {oa : Option Addr} {l : List UInt8} {c : Nat} (h : Bytes I oa l c) (hl : l.length ≤ 2000) (b p : Nat) (hp : p + 10 ≤ 1099511627776) (L : At) :
  Fun Tryd.prog 24 [.pointer (some ⟨b, 0, none⟩)] I (rd b oa l c p :: L) (DT b oa l c p 1 12 L) := by
 refine Ag (by simp) ?_; refine Se rfl (Oa rfl (Aa (Se rfl (Om rfl ?_)))); refine Ca rfl (F9 h hl b _ 6 (by omega) (by decide) L) ?_; rintro _ _ _ _ ⟨r, rfl, rfl, rfl, hr⟩; refine Ca rfl (Qm _ r (Nat.lt_succ_self _) (by omega) _ _) ?_; rintro _ _ _ _ ⟨rfl, rfl, rfl⟩; refine Oa rfl (Aa (Ac (.tmp rfl .nil) ?_))
 exact ⟨_, _, .refl _, fun _ h => h, _, _, rfl, Nk (by omega), by omega, by omega, rfl⟩
theorem I2 {I : Heap} {oa : Option Addr} {l : List UInt8} {c : Nat} (h : Bytes I oa l c) (hl : l.length ≤ 2000) (b p : Nat) (hp : p + 100 ≤ 1099511627776) (L : At) :
  Fun Tryd.prog 13 [.pointer (some ⟨b, 0, none⟩)] I (rd b oa l c p :: L) (DT b oa l c p 10 200 L) := by
 refine Ag (by simp) ?_; refine Se rfl (Oa rfl (Aa (Se rfl (Om rfl ?_)))); refine Ca rfl (I3 h hl b _ (by omega) L) ?_; rintro _ J1 _ e1 ⟨ra, p1, rfl, ha, hp1, hp2, rfl⟩
 have h := h.mono e1
 refine Oa rfl (Aa (Se rfl (Om rfl ?_))); refine Ca rfl (I3 h hl b _ (by omega) L) ?_; rintro _ J2 _ e2 ⟨rb, p2, rfl, hb, hp3, hp4, rfl⟩
 have h := h.mono e2
 refine Oa rfl (Aa (Se rfl (Om rfl ?_))); refine Ca rfl (I3 h hl b _ (by omega) L) ?_; rintro _ J3 _ e3 ⟨rc, p3, rfl, hc, hp5, hp6, rfl⟩
 have h := h.mono e3
 have hle := (e1.trans e2).trans e3
 refine Oa rfl (Aa (Ai (Se rfl (Om rfl ?_)))); refine Ca rfl (F9 h hl b _ 14 (by omega) (by decide) L) ?_; rintro _ _ _ _ ⟨r, rfl, rfl, rfl, hr⟩; refine Aa (Av (Ai (Se rfl (Oc rfl rfl rfl (Oa rfl (Aa ?_)))))); refine Am rfl ?_ ?_
 ·intro c0
  try simp only [nb] at c0
  refine Aj ?_
  first | refine St rfl (by first | assumption | omega) ?_ | refine Bk (by simp [A8, Au, *]) ?_
  refine Se rfl (Om rfl ?_); refine Ok rfl rfl ?_; refine Ok rfl rfl ?_; refine Om rfl ?_; refine Ol rfl rfl ?_; intro b21; refine Cb [[48], [49], [45, 55], [57, 57, 57]] (by decide) (by decide) ?_; intro J4 e4 k1
  have h := h.mono e4
  have hle := hle.trans e4
  refine Ca rfl (C7 h hl b _ (by omega) k1 (by simp) L) ?_; rintro _ _ _ _ ⟨w, rfl, hw, rfl, rfl⟩
  have hwl : w.length ≤ 40 := by revert w; decide
  refine Ok rfl rfl ?_; refine Ok rfl rfl ?_; refine Oa rfl (Aa (Ac (.tmp rfl .nil) ?_)); refine ⟨_, _, hle, fun _ h => h, _, _, rfl, ?_, by omega, by omega, rfl⟩
  first | omega | (simp only [List.length_append, List.length_cons, List.length_nil]; omega)
 intro c0
 try simp only [nb] at c0
 refine Ap rfl (Oc rfl rfl rfl (Oa rfl (Aa ?_))); refine Am rfl ?_ ?_
 ·intro c1
  try simp only [nb] at c1
  refine Se rfl (Om rfl ?_); refine Ok rfl rfl ?_; refine Ok rfl rfl ?_; refine Om rfl ?_; refine Ol rfl rfl ?_; intro b21; refine Cb [[48], [49], [45, 55], [57, 57, 57]] (by decide) (by decide) ?_; intro J4 e4 k1
  have h := h.mono e4
  have hle := hle.trans e4
  refine Ca rfl (C7 h hl b _ (by omega) k1 (by simp) L) ?_; rintro _ _ _ _ ⟨w, rfl, hw, rfl, rfl⟩
  have hwl : w.length ≤ 40 := by revert w; decide
  refine Ok rfl rfl ?_; refine Ok rfl rfl ?_; refine Oa rfl (Aa (Ac (.tmp rfl .nil) ?_)); refine ⟨_, _, hle, fun _ h => h, _, _, rfl, ?_, by omega, by omega, rfl⟩
  first | omega | (simp only [List.length_append, List.length_cons, List.length_nil]; omega)
 intro c1
 try simp only [nb] at c1
 refine Se rfl (Oc rfl rfl rfl (Oa rfl (Aa ?_))); refine Am rfl ?_ ?_
 ·intro c2
  try simp only [nb] at c2
  refine Se rfl (Om rfl ?_); refine Ok rfl rfl ?_; refine Ok rfl rfl ?_; refine Om rfl ?_; refine Ok rfl rfl ?_; refine Ok rfl rfl ?_; refine Oa rfl (Aa (Ac (.tmp rfl .nil) ?_)); refine ⟨_, _, hle, fun _ h => h, _, _, rfl, ?_, by omega, by omega, rfl⟩
  first | omega | (simp only [List.length_append, List.length_cons, List.length_nil]; omega)
 intro c2
 try simp only [nb] at c2
 refine Se rfl (Oc rfl rfl rfl (Oa rfl (Aa ?_))); refine Am rfl ?_ ?_
 ·intro c3
  try simp only [nb] at c3
  refine Se rfl (Om rfl ?_); refine Ol rfl rfl ?_; intro b36; refine Cb [[97, 100, 100], [115, 117, 98], [109, 117, 108]] (by decide) (by decide) ?_; intro J4 e4 k1
  have h := h.mono e4
  have hle := hle.trans e4
  refine Ca rfl (C7 h hl b _ (by omega) k1 (by simp) L) ?_; rintro _ _ _ _ ⟨w, rfl, hw, rfl, rfl⟩
  have hwl : w.length ≤ 40 := by revert w; decide
  refine Ok rfl rfl ?_; refine Ok rfl rfl ?_; refine Om rfl ?_; refine Ok rfl rfl ?_; refine Ok rfl rfl ?_; refine Om rfl ?_; refine Ok rfl rfl ?_; refine Ok rfl rfl ?_; refine Om rfl ?_; refine Ok rfl rfl ?_; refine Ok rfl rfl ?_; refine Oa rfl (Aa (Ac (.tmp rfl .nil) ?_)); refine ⟨_, _, hle, fun _ h => h, _, _, rfl, ?_, by omega, by omega, rfl⟩
  first | omega | (simp only [List.length_append, List.length_cons, List.length_nil]; omega)
 intro c3
 try simp only [nb] at c3
 refine Se rfl (Oc rfl rfl rfl (Oa rfl (Aa ?_))); refine Am rfl ?_ ?_
 ·intro c4
  try simp only [nb] at c4
  refine Se rfl (Om rfl ?_); refine Ok rfl rfl ?_; refine Ok rfl rfl ?_; refine Om rfl ?_; refine Ok rfl rfl ?_; refine Ok rfl rfl ?_; refine Om rfl ?_; refine Ok rfl rfl ?_; refine Ok rfl rfl ?_; refine Oa rfl (Aa (Ac (.tmp rfl .nil) ?_)); refine ⟨_, _, hle, fun _ h => h, _, _, rfl, ?_, by omega, by omega, rfl⟩
  first | omega | (simp only [List.length_append, List.length_cons, List.length_nil]; omega)
 intro c4
 try simp only [nb] at c4
 refine Se rfl (Oc rfl rfl rfl (Oa rfl (Aa ?_))); refine Am rfl ?_ ?_
 ·intro c5
  try simp only [nb] at c5
  refine Se rfl (Om rfl ?_); refine Ok rfl rfl ?_; refine Ok rfl rfl ?_; refine Oa rfl (Aa (Ac (.tmp rfl .nil) ?_)); refine ⟨_, _, hle, fun _ h => h, _, _, rfl, ?_, by omega, by omega, rfl⟩
  first | omega | (simp only [List.length_append, List.length_cons, List.length_nil]; omega)
 intro c5
 try simp only [nb] at c5
 refine Se rfl (Oc rfl rfl rfl (Oa rfl (Aa ?_))); refine Am rfl ?_ ?_
 ·intro c6
  try simp only [nb] at c6
  refine Se rfl (Om rfl ?_); refine Ok rfl rfl ?_; refine Ok rfl rfl ?_; refine Om rfl ?_; refine Ok rfl rfl ?_; refine Ok rfl rfl ?_; refine Om rfl ?_; refine Ol rfl rfl ?_; intro b74; refine Cb [[48], [49], [50]] (by decide) (by decide) ?_; intro J4 e4 k1
  have h := h.mono e4
  have hle := hle.trans e4
  refine Ca rfl (C7 h hl b _ (by omega) k1 (by simp) L) ?_; rintro _ _ _ _ ⟨w, rfl, hw, rfl, rfl⟩
  have hwl : w.length ≤ 40 := by revert w; decide
  refine Ok rfl rfl ?_; refine Ok rfl rfl ?_; refine Oa rfl (Aa (Ac (.tmp rfl .nil) ?_)); refine ⟨_, _, hle, fun _ h => h, _, _, rfl, ?_, by omega, by omega, rfl⟩
  first | omega | (simp only [List.length_append, List.length_cons, List.length_nil]; omega)
 intro c6
 try simp only [nb] at c6
 refine Se rfl (Oc rfl rfl rfl (Oa rfl (Aa ?_))); refine Am rfl ?_ ?_
 ·intro c7
  try simp only [nb] at c7
  refine Se rfl (Om rfl ?_); refine Ok rfl rfl ?_; refine Ok rfl rfl ?_; refine Om rfl ?_; refine Ol rfl rfl ?_; intro b84; refine Cb [[109, 97, 105, 110], [98, 48], [98, 49], [101, 110, 100]] (by decide) (by decide) ?_; intro J4 e4 k1
  have h := h.mono e4
  have hle := hle.trans e4
  refine Ca rfl (C7 h hl b _ (by omega) k1 (by simp) L) ?_; rintro _ _ _ _ ⟨w, rfl, hw, rfl, rfl⟩
  have hwl : w.length ≤ 40 := by revert w; decide
  refine Ok rfl rfl ?_; refine Ok rfl rfl ?_; refine Oa rfl (Aa (Ac (.tmp rfl .nil) ?_)); refine ⟨_, _, hle, fun _ h => h, _, _, rfl, ?_, by omega, by omega, rfl⟩
  first | omega | (simp only [List.length_append, List.length_cons, List.length_nil]; omega)
 intro c7
 try simp only [nb] at c7
 refine Se rfl (Oc rfl rfl rfl (Oa rfl (Aa ?_))); refine Am rfl ?_ ?_
 ·intro c8
  try simp only [nb] at c8
  refine Se rfl (Om rfl ?_); refine Ok rfl rfl ?_; refine Ok rfl rfl ?_; refine Om rfl ?_; refine Ok rfl rfl ?_; refine Ok rfl rfl ?_; refine Om rfl ?_; refine Ol rfl rfl ?_; intro b97; refine Cb [[40, 101, 32, 118, 41, 32, 105], [40, 101, 32, 40, 116, 32, 118, 32, 118, 41, 41, 32, 105], [40, 101, 32, 40, 116, 32, 40, 99, 32, 118, 32, 105, 41, 32, 118, 41, 41, 32, 40, 116, 41], [40, 101, 32, 118, 41, 32, 40, 116, 32, 105, 32, 105, 41]] (by decide) (by decide) ?_; intro J4 e4 k1
  have h := h.mono e4
  have hle := hle.trans e4
  refine Ca rfl (C7 h hl b _ (by omega) k1 (by simp) L) ?_; rintro _ _ _ _ ⟨w, rfl, hw, rfl, rfl⟩
  have hwl : w.length ≤ 40 := by revert w; decide
  refine Ok rfl rfl ?_; refine Ok rfl rfl ?_; refine Oa rfl (Aa (Ac (.tmp rfl .nil) ?_)); refine ⟨_, _, hle, fun _ h => h, _, _, rfl, ?_, by omega, by omega, rfl⟩
  first | omega | (simp only [List.length_append, List.length_cons, List.length_nil]; omega)
 intro c8
 try simp only [nb] at c8
 refine Se rfl (Oc rfl rfl rfl (Oa rfl (Aa ?_))); refine Am rfl ?_ ?_
 ·intro c9
  try simp only [nb] at c9
  refine Se rfl (Om rfl ?_); refine Ok rfl rfl ?_; refine Ok rfl rfl ?_; refine Om rfl ?_; refine Ok rfl rfl ?_; refine Ok rfl rfl ?_; refine Oa rfl (Aa (Ac (.tmp rfl .nil) ?_)); refine ⟨_, _, hle, fun _ h => h, _, _, rfl, ?_, by omega, by omega, rfl⟩
  first | omega | (simp only [List.length_append, List.length_cons, List.length_nil]; omega)
 intro c9
 try simp only [nb] at c9
 refine Se rfl (Oc rfl rfl rfl (Oa rfl (Aa ?_))); refine Am rfl ?_ ?_
 ·intro c10
  try simp only [nb] at c10
  refine Se rfl (Om rfl ?_); refine Ok rfl rfl ?_; refine Ok rfl rfl ?_; refine Om rfl ?_; refine Ol rfl rfl ?_; intro b115; refine Cb [[98, 48], [98, 49], [109, 97, 105, 110]] (by decide) (by decide) ?_; intro J4 e4 k1
  have h := h.mono e4
  have hle := hle.trans e4
  refine Ca rfl (C7 h hl b _ (by omega) k1 (by simp) L) ?_; rintro _ _ _ _ ⟨w, rfl, hw, rfl, rfl⟩
  have hwl : w.length ≤ 40 := by revert w; decide
  refine Ok rfl rfl ?_; refine Ok rfl rfl ?_; refine Oa rfl (Aa (Ac (.tmp rfl .nil) ?_)); refine ⟨_, _, hle, fun _ h => h, _, _, rfl, ?_, by omega, by omega, rfl⟩
  first | omega | (simp only [List.length_append, List.length_cons, List.length_nil]; omega)
 intro c10
 try simp only [nb] at c10
 refine Se rfl (Oc rfl rfl rfl (Oa rfl (Aa ?_))); refine Am rfl ?_ ?_
 ·intro c11
  try simp only [nb] at c11
  refine Se rfl (Om rfl (Om rfl ?_)); refine Ok rfl rfl ?_; refine Ok rfl rfl ?_; refine Om rfl ?_; refine Ok rfl rfl ?_; refine Ok rfl rfl ?_; refine Ol rfl rfl ?_; intro b128; refine Cb [[40, 106, 117, 109, 112, 32] ++ ra ++ [41], [40, 104, 97, 108, 116, 32] ++ ra ++ [41]] (by simp [As]) (by intro z hz; simp only [List.mem_cons, List.not_mem_nil, or_false] at hz; rcases hz with rfl | rfl <;> (simp only [List.length_append, List.length_cons, List.length_nil]; unfold As; omega)) ?_; intro J4 e4 k1
  have h := h.mono e4
  have hle := hle.trans e4
  refine Ca rfl (C7 h hl b _ (by omega) k1 (by simp) L) ?_; rintro _ _ _ _ ⟨w, rfl, hw, rfl, rfl⟩
  have hwl : w.length ≤ 40 := by
   simp only [List.mem_cons, List.not_mem_nil, or_false] at hw
   rcases hw with rfl | rfl <;> (simp only [List.length_append, List.length_cons, List.length_nil]; omega)
  refine Oa rfl (Aa (Ac (.tmp rfl .nil) ?_)); refine ⟨_, _, hle, fun _ h => h, _, _, rfl, ?_, by omega, by omega, rfl⟩
  first | omega | (simp only [List.length_append, List.length_cons, List.length_nil]; omega)
 intro c11
 try simp only [nb] at c11
 refine Aj (Ar (Se rfl (Om rfl ?_))); refine Ol rfl rfl ?_; intro b131; refine Cb [[40, 104, 97, 108, 116, 32, 52, 48, 41], [40, 99, 111, 110, 115, 116, 32, 49, 32, 120, 41], [40, 109, 111, 118, 32, 49, 41], [40, 110, 101, 119, 41], [40, 112, 97, 99, 107, 32, 49, 32, 50, 32, 105, 32, 105, 41], [], [40, 103, 101, 116, 32, 49, 32, 50, 32, 45, 49, 41], [40, 122, 101, 114, 111, 32, 49, 32, 50, 41], [40, 108, 97, 98, 32, 48, 32, 109, 97, 105, 110, 41], [40, 104, 97, 108, 116, 32, 48, 41]] (by decide) (by decide) ?_; intro J4 e4 k1
 have h := h.mono e4
 have hle := hle.trans e4
 refine Ca rfl (C7 h hl b _ (by omega) k1 (by simp) L) ?_; rintro _ _ _ _ ⟨w, rfl, hw, rfl, rfl⟩
 have hwl : w.length ≤ 40 := by revert w; decide
 refine Oa rfl (Aa (Ac (.tmp rfl .nil) ?_)); refine ⟨_, _, hle, fun _ h => h, _, _, rfl, ?_, by omega, by omega, rfl⟩
 first | omega | (simp only [List.length_append, List.length_cons, List.length_nil]; omega)
theorem Ho {I : Heap} {oa : Option Addr} {l : List UInt8} {c : Nat} (h : Bytes I oa l c) (L : At) : Fun Tryd.prog 5 [.slice oa l.length c] I L (DX L) := by
 refine Ag (by simp) ?_; refine Se rfl (Oa rfl (Aa (Se rfl (Om rfl ?_)))); refine Ca rfl (Lw h _) ?_; rintro _ J1 _ e1 ⟨b, oa1, l1, c1, rfl, h1, hl1, rfl⟩; refine Ca rfl (I2 h1 hl1 b 0 (by decide) L) ?_; rintro _ J2 _ e2 ⟨s, p', rfl, hs, hp1, hp2, rfl⟩; refine Oa rfl (Aa (Ac (.tmp rfl .nil) ?_))
 exact ⟨J2, L, e1.trans e2, fun _ h => h.drop, s, rfl, by omega, rfl⟩
theorem Ig {I : Heap} {oa : Option Addr} {l : List UInt8} {c : Nat} (h : Bytes I oa l c) (L : At) : Fun Tryd.prog 11 [.slice oa l.length c] I L (DX L) := by
 refine Ag (by simp) ?_; refine Se rfl (Oa rfl (Aa (Se rfl (Om rfl ?_)))); refine Ca rfl (Lw h _) ?_; rintro _ J1 _ e1 ⟨b, oa1, l1, c1, rfl, h1, hl1, rfl⟩; refine Ca rfl (I2 h1 hl1 b 0 (by decide) L) ?_; rintro _ J2 _ e2 ⟨s, p', rfl, hs, hp1, hp2, rfl⟩; refine Oa rfl (Aa (Ac (.tmp rfl .nil) ?_))
 exact ⟨J2, L, e1.trans e2, fun _ h => h.drop, s, rfl, by omega, rfl⟩
open Go.Shelf
def H8 : Go.Shelf.Ren := ⟨fun | 105 => 47 | 212 => 62 | 99 => 45 | 165 => 63 | 166 => 64 | 170 => 65 | 169 => 57 | 263 => 75 | 264 => 76 | 206 => 61 | 240 => 77 | 241 => 78 | 276 => 84 | 277 => 85 | n => n, fun | 9 => 9 | 3 => 3 | 4 => 4 | 20 => 20 | 0 => 0 | 46 => 81 | 109 => 82 | 5 => 5 | 72 => 78 | 76 => 67 | 51 => 97 | 146 => 98 | 53 => 100 | 148 => 101 | 70 => 76 | 37 => 22 | 75 => 66 | 127 => 90 | 164 => 108 | 80 => 55 | n => n, fun | n => n⟩
theorem Hb : Go.Proofs.Lays.n105 Tryd.prog H8 := {
 mixed := by kernel_rfl
 f99 := Tryd.func45.trans (congrArg some (by kernel_rfl))
 f105 := Tryd.func47.trans (congrArg some (by kernel_rfl))
 f165 := Tryd.func63.trans (congrArg some (by kernel_rfl))
 f166 := Tryd.func64.trans (congrArg some (by kernel_rfl))
 f169 := Tryd.func57.trans (congrArg some (by kernel_rfl))
 f170 := Tryd.func65.trans (congrArg some (by kernel_rfl))
 f206 := Tryd.func61.trans (congrArg some (by kernel_rfl))
 f212 := Tryd.func62.trans (congrArg some (by kernel_rfl))
 f240 := Tryd.func77.trans (congrArg some (by kernel_rfl))
 f241 := Tryd.func78.trans (congrArg some (by kernel_rfl))
 f263 := Tryd.func75.trans (congrArg some (by kernel_rfl))
 f264 := Tryd.func76.trans (congrArg some (by kernel_rfl))
 f276 := Tryd.func84.trans (congrArg some (by kernel_rfl))
 f277 := Tryd.func85.trans (congrArg some (by kernel_rfl))
 t0 := Tryd.underlying0
 a0 := Tryd.isAgg0
 z0 := Tryd.sizeOf0
 v0 := Tryd.zeroValue0
 t3 := Tryd.underlying3
 a3 := Tryd.isAgg3
 z3 := Tryd.sizeOf3
 v3 := Tryd.zeroValue3
 t4 := Tryd.underlying4
 a4 := Tryd.isAgg4
 z4 := Tryd.sizeOf4
 v4 := Tryd.zeroValue4
 t5 := Tryd.underlying5
 a5 := Tryd.isAgg5
 z5 := Tryd.sizeOf5
 v5 := Tryd.zeroValue5
 t9 := Tryd.underlying9
 a9 := Tryd.isAgg9
 z9 := Tryd.sizeOf9
 v9 := Tryd.zeroValue9
 t20 := Tryd.underlying20
 a20 := Tryd.isAgg20
 z20 := Tryd.sizeOf20
 v20 := Tryd.zeroValue20
 t37 := Tryd.underlying22
 a37 := Tryd.isAgg22
 z37 := Tryd.sizeOf22
 v37 := Tryd.zeroValue22
 t46 := Tryd.underlying81
 a46 := Tryd.isAgg81
 z46 := Tryd.sizeOf81
 v46 := Tryd.zeroValue81
 t51 := Tryd.underlying97
 a51 := Tryd.isAgg97
 z51 := Tryd.sizeOf97
 v51 := Tryd.zeroValue97
 t53 := Tryd.underlying100
 a53 := Tryd.isAgg100
 z53 := Tryd.sizeOf100
 v53 := Tryd.zeroValue100
 t70 := Tryd.underlying76
 a70 := Tryd.isAgg76
 z70 := Tryd.sizeOf76
 v70 := Tryd.zeroValue76
 t72 := Tryd.underlying78
 a72 := Tryd.isAgg78
 z72 := Tryd.sizeOf78
 v72 := Tryd.zeroValue78
 t75 := Tryd.underlying66
 a75 := Tryd.isAgg66
 z75 := Tryd.sizeOf66
 v75 := Tryd.zeroValue66
 t76 := Tryd.underlying67
 a76 := Tryd.isAgg67
 z76 := Tryd.sizeOf67
 v76 := Tryd.zeroValue67
 t109 := Tryd.underlying82
 a109 := Tryd.isAgg82
 z109 := Tryd.sizeOf82
 v109 := Tryd.zeroValue82
 t127 := Tryd.underlying90
 a127 := Tryd.isAgg90
 z127 := Tryd.sizeOf90
 v127 := Tryd.zeroValue90
 t146 := Tryd.underlying98
 a146 := Tryd.isAgg98
 z146 := Tryd.sizeOf98
 v146 := Tryd.zeroValue98
 t148 := Tryd.underlying101
 a148 := Tryd.isAgg101
 z148 := Tryd.sizeOf101
 v148 := Tryd.zeroValue101
 t164 := Tryd.underlying108
 a164 := Tryd.isAgg108
 z164 := Tryd.sizeOf108
 v164 := Tryd.zeroValue108 }
open Go.Shelf Go.RowKit
set_option maxRecDepth 100000
set_option linter.unusedVariables false
set_option linter.unusedSimpArgs false

theorem Mem.below {I : Heap} {L : At} {w w' : World} (h : Mem I L w) (hb : Below w.heap.size w w') : Mem I L w' := by
 obtain ⟨⟨h1, h2, h3⟩, h4, h5⟩ := h
 have key : ∀ {k : Nat} {o : Obj}, w.heap[k]? = some o → w'.heap[k]? = some o := by
  intro k o hk
  have hlt : k < w.heap.size := by
   rcases Nat.lt_or_ge k w.heap.size with h | h
   ·exact h
   ·rw [Array.getElem?_eq_none h] at hk; cases hk
  rw [hb.block k hlt, hk]
 exact ⟨⟨fun b o hbo => key (h1 b o hbo), hb.os.trans h2, hb.output.trans h3⟩, fun p hp => ⟨key (h4 p hp).1, (h4 p hp).2⟩, h5⟩
theorem Pd : Builder.Extra Tryd.prog H8 where
 sizeBuilder := by kernel_rfl
 liesBuilder := by kernel_rfl
 t5 := Hb.t5
 a5 := Hb.a5
 z5 := Hb.z5
 v5 := Hb.v5
 infoByte := by kernel_rfl
 cellsByte := by kernel_rfl
 sizeByte := by kernel_rfl
 neB5 := by decide
theorem Hn (s : Af) (c : Nat) (hc : s.length * c ≤ 4294967296) (hc2 : c ≤ 4294967296) (I : Heap) (L : At) : Fun Tryd.prog 47 [.string (str s), .int .i64 (c : Nat)] I L (Cr (.string (str (Lib.repeatL s c))) I L) := by
 refine ⟨fun w hm => (Any.strings_Repeat Hb Pd (str s) c w (by omega) (by show s.toArray.size * c ≤ _; simp only [List.size_toArray]; omega)).mono ?_⟩; rintro e w' ⟨rfl, hb⟩
 exact ⟨_, I, L, rfl, .refl _, hm.below hb, rfl, rfl, rfl⟩
open Go.Shelf
def L1 : Go.Shelf.Ren := ⟨fun | 172 => 43 | 244 => 59 | 245 => 60 | 247 => 70 | 279 => 71 | 280 => 72 | 281 => 73 | 282 => 74 | 287 => 80 | 316 => 81 | 171 => 83 | 205 => 82 | 321 => 86 | 322 => 87 | 243 => 88 | 246 => 89 | 283 => 90 | 284 => 91 | 285 => 92 | 286 => 93 | 129 => 95 | 317 => 94 | 318 => 96 | 319 => 97 | 320 => 98 | 337 => 99 | 338 => 100 | n => n, fun | 9 => 9 | 3 => 3 | 75 => 66 | 76 => 67 | 4 => 4 | 5 => 5 | 167 => 91 | 37 => 22 | 0 => 0 | 85 => 92 | 2 => 2 | 168 => 94 | 53 => 100 | 175 => 103 | 46 => 81 | 210 => 106 | 127 => 90 | 145 => 114 | 143 => 112 | 21 => 21 | 171 => 116 | 173 => 119 | 212 => 122 | 51 => 97 | 20 => 20 | 213 => 123 | 232 => 127 | 233 => 128 | 80 => 55 | n => n, fun | 15 => 0 | 16 => 1 | 17 => 3 | 18 => 4 | 19 => 5 | n => n⟩
theorem Qn : Go.Proofs.Lays.n172 Tryd.prog L1 := {
 mixed := by kernel_rfl
 f129 := Tryd.func95.trans (congrArg some (by kernel_rfl))
 f171 := Tryd.func83.trans (congrArg some (by kernel_rfl))
 f172 := Tryd.func43.trans (congrArg some (by kernel_rfl))
 f205 := Tryd.func82.trans (congrArg some (by kernel_rfl))
 f243 := Tryd.func88.trans (congrArg some (by kernel_rfl))
 f244 := Tryd.func59.trans (congrArg some (by kernel_rfl))
 f245 := Tryd.func60.trans (congrArg some (by kernel_rfl))
 f246 := Tryd.func89.trans (congrArg some (by kernel_rfl))
 f247 := Tryd.func70.trans (congrArg some (by kernel_rfl))
 f279 := Tryd.func71.trans (congrArg some (by kernel_rfl))
 f280 := Tryd.func72.trans (congrArg some (by kernel_rfl))
 f281 := Tryd.func73.trans (congrArg some (by kernel_rfl))
 f282 := Tryd.func74.trans (congrArg some (by kernel_rfl))
 f283 := Tryd.func90.trans (congrArg some (by kernel_rfl))
 f284 := Tryd.func91.trans (congrArg some (by kernel_rfl))
 f285 := Tryd.func92.trans (congrArg some (by kernel_rfl))
 f286 := Tryd.func93.trans (congrArg some (by kernel_rfl))
 f287 := Tryd.func80.trans (congrArg some (by kernel_rfl))
 f316 := Tryd.func81.trans (congrArg some (by kernel_rfl))
 f317 := Tryd.func94.trans (congrArg some (by kernel_rfl))
 f318 := Tryd.func96.trans (congrArg some (by kernel_rfl))
 f319 := Tryd.func97.trans (congrArg some (by kernel_rfl))
 f320 := Tryd.func98.trans (congrArg some (by kernel_rfl))
 f321 := Tryd.func86.trans (congrArg some (by kernel_rfl))
 f322 := Tryd.func87.trans (congrArg some (by kernel_rfl))
 f337 := Tryd.func99.trans (congrArg some (by kernel_rfl))
 f338 := Tryd.func100.trans (congrArg some (by kernel_rfl))
 t0 := Tryd.underlying0
 a0 := Tryd.isAgg0
 z0 := Tryd.sizeOf0
 v0 := Tryd.zeroValue0
 t2 := Tryd.underlying2
 a2 := Tryd.isAgg2
 z2 := Tryd.sizeOf2
 v2 := Tryd.zeroValue2
 t3 := Tryd.underlying3
 a3 := Tryd.isAgg3
 z3 := Tryd.sizeOf3
 v3 := Tryd.zeroValue3
 t4 := Tryd.underlying4
 a4 := Tryd.isAgg4
 z4 := Tryd.sizeOf4
 v4 := Tryd.zeroValue4
 t5 := Tryd.underlying5
 a5 := Tryd.isAgg5
 z5 := Tryd.sizeOf5
 v5 := Tryd.zeroValue5
 t9 := Tryd.underlying9
 a9 := Tryd.isAgg9
 z9 := Tryd.sizeOf9
 v9 := Tryd.zeroValue9
 t20 := Tryd.underlying20
 a20 := Tryd.isAgg20
 z20 := Tryd.sizeOf20
 v20 := Tryd.zeroValue20
 t21 := Tryd.underlying21
 a21 := Tryd.isAgg21
 z21 := Tryd.sizeOf21
 v21 := Tryd.zeroValue21
 t37 := Tryd.underlying22
 a37 := Tryd.isAgg22
 z37 := Tryd.sizeOf22
 v37 := Tryd.zeroValue22
 t46 := Tryd.underlying81
 a46 := Tryd.isAgg81
 z46 := Tryd.sizeOf81
 v46 := Tryd.zeroValue81
 t51 := Tryd.underlying97
 a51 := Tryd.isAgg97
 z51 := Tryd.sizeOf97
 v51 := Tryd.zeroValue97
 t53 := Tryd.underlying100
 a53 := Tryd.isAgg100
 z53 := Tryd.sizeOf100
 v53 := Tryd.zeroValue100
 t75 := Tryd.underlying66
 a75 := Tryd.isAgg66
 z75 := Tryd.sizeOf66
 v75 := Tryd.zeroValue66
 t76 := Tryd.underlying67
 a76 := Tryd.isAgg67
 z76 := Tryd.sizeOf67
 v76 := Tryd.zeroValue67
 t85 := Tryd.underlying92
 a85 := Tryd.isAgg92
 z85 := Tryd.sizeOf92
 v85 := Tryd.zeroValue92
 t127 := Tryd.underlying90
 a127 := Tryd.isAgg90
 z127 := Tryd.sizeOf90
 v127 := Tryd.zeroValue90
 t143 := Tryd.underlying112
 a143 := Tryd.isAgg112
 z143 := Tryd.sizeOf112
 v143 := Tryd.zeroValue112
 t145 := Tryd.underlying114
 a145 := Tryd.isAgg114
 z145 := Tryd.sizeOf114
 v145 := Tryd.zeroValue114
 t167 := Tryd.underlying91
 a167 := Tryd.isAgg91
 z167 := Tryd.sizeOf91
 v167 := Tryd.zeroValue91
 t168 := Tryd.underlying94
 a168 := Tryd.isAgg94
 z168 := Tryd.sizeOf94
 v168 := Tryd.zeroValue94
 t171 := Tryd.underlying116
 a171 := Tryd.isAgg116
 z171 := Tryd.sizeOf116
 v171 := Tryd.zeroValue116
 t173 := Tryd.underlying119
 a173 := Tryd.isAgg119
 z173 := Tryd.sizeOf119
 v173 := Tryd.zeroValue119
 t175 := Tryd.underlying103
 a175 := Tryd.isAgg103
 z175 := Tryd.sizeOf103
 v175 := Tryd.zeroValue103
 t210 := Tryd.underlying106
 a210 := Tryd.isAgg106
 z210 := Tryd.sizeOf106
 v210 := Tryd.zeroValue106
 t212 := Tryd.underlying122
 a212 := Tryd.isAgg122
 z212 := Tryd.sizeOf122
 v212 := Tryd.zeroValue122
 t213 := Tryd.underlying123
 a213 := Tryd.isAgg123
 z213 := Tryd.sizeOf123
 t232 := Tryd.underlying127
 a232 := Tryd.isAgg127
 z232 := Tryd.sizeOf127
 v232 := Tryd.zeroValue127
 t233 := Tryd.underlying128
 a233 := Tryd.isAgg128
 z233 := Tryd.sizeOf128
 v233 := Tryd.zeroValue128
 g15 := by kernel_rfl
 g16 := by kernel_rfl
 g17 := by kernel_rfl
 g18 := by kernel_rfl
 g19 := by kernel_rfl }
open Go.Shelf
def Qo : Go.Shelf.Ren := ⟨fun | 171 => 83 | 243 => 88 | 246 => 89 | 283 => 90 | 284 => 91 | 285 => 92 | 286 => 93 | 129 => 95 | 317 => 94 | 318 => 96 | 319 => 97 | 320 => 98 | 337 => 99 | 338 => 100 | n => n, fun | 3 => 3 | 9 => 9 | 2 => 2 | 4 => 4 | 171 => 116 | 0 => 0 | 53 => 100 | 37 => 22 | 5 => 5 | 173 => 119 | 212 => 122 | 51 => 97 | 20 => 20 | 213 => 123 | 46 => 81 | 232 => 127 | 233 => 128 | n => n, fun | 17 => 3 | 18 => 4 | 19 => 5 | n => n⟩
open Go.Shelf
def Re : Go.Shelf.Ren := ⟨fun | 171 => 83 | 243 => 88 | 246 => 89 | 283 => 90 | 284 => 91 | 285 => 92 | 286 => 93 | 129 => 95 | 317 => 94 | 318 => 96 | 319 => 97 | 320 => 98 | 337 => 99 | 338 => 100 | n => n, fun | 3 => 3 | 9 => 9 | 2 => 2 | 4 => 4 | 171 => 116 | 0 => 0 | 53 => 100 | 37 => 22 | 5 => 5 | 173 => 119 | 212 => 122 | 51 => 97 | 20 => 20 | 213 => 123 | 46 => 81 | 232 => 127 | 233 => 128 | n => n, fun | 17 => 3 | 18 => 4 | 19 => 5 | n => n⟩
def Tab (I : Heap) : Prop := ∀ L w, Mem I L w → Lib.TabIs Tryd.prog w "internal/strconv.uint64pow10" .u64 Lib.pow10Tab
theorem Tab.mono {I I' : Heap} (h : Tab I) (hle : HLe I I') : Tab I' := fun L w hm => h L w (hm.le hle)
def Tl (n : Int) : Af := if n < 0 then 45 :: Gy n.natAbs else Gy n.toNat
def Ex.many : Ex → Nat
 | .num _ => 1
 | .name _ => 1
 | .bin _ a b => 1 + a.many + b.many
 | .ite a b c => 1 + a.many + b.many + c.many
 | .lt _ a b => 1 + a.many + b.many
 | .fn _ _ _ _ b => 1 + b.many
 | .un _ a => 1 + a.many
def Ex.hd : Ex → Af
 | .num _ => [110, 117, 109, 98, 101, 114]
 | .name _ => [110, 97, 109, 101]
 | e => e.tree.head
def Tj (s : Af) : Af := match G7 s with
 | some e => e.hd
 | none => []
def To (s : Af) : Option (List Af) := (G7 s).map fun e => e.sub.map fun a => a.tree.text
def Tp (s : Af) : Int := match G7 s with
 | some e => (e.many : Nat)
 | none => -1
def Tb (s : Af) : Int := match Bv s with
 | some t => (t.size : Nat)
 | none => -1
def Pk (s : Af) : Nat := s.foldl (fun a c => 10 * a + (c.toNat - 48)) 0
theorem Pl (s : Af) (c : UInt8) : Pk (s ++ [c]) = 10 * Pk s + (c.toNat - 48) := by simp [Pk]
theorem Jv {d : Nat} (h : d < 10) : (UInt8.ofNat (48 + d)).toNat - 48 = d := by
 have : (UInt8.ofNat (48 + d)).toNat = 48 + d := by simp [UInt8.toNat_ofNat]; omega
 omega
theorem Kb : ∀ n : Nat, Pk (Gy n) = n := by
 intro n
 induction n using Nat.strongRecOn with
 | _ n ih =>
  by_cases h : n < 10
  ·rw [Fl h]
   show 10 * 0 + ((UInt8.ofNat (48 + n)).toNat - 48) = n
   rw [Jv h]; omega
  ·rw [F6 h, Pl, ih (n / 10) (by omega), Jv (Nat.mod_lt _ (by omega))]
   omega
theorem Pc {a b : Nat} (h : Gy a = Gy b) : a = b := by
 have := congrArg Pk h
 rwa [Kb, Kb] at this
def nm (c : UInt8) (n : Nat) : Af := c :: Gy n
theorem Ru {c : UInt8} {a b : Nat} (h : nm c a = nm c b) : a = b := Pc (List.cons.inj h).2
def Ub (c : UInt8) (av : List Af) (n : Nat) : Nat := ((List.range n).filter fun k => decide (nm c k ∈ av)).length
def T5 (c : UInt8) (av : List Af) : Nat → Nat → Nat
 | 0, n => n
 | k + 1, n => if nm c n ∈ av then T5 c av k (n + 1) else n
def fr (c : UInt8) (av : List Af) (n : Nat) : Nat := T5 c av av.length n
def Ex.pl (av : List Af) : Ex → List Af → List Af → Nat → Ex × Nat
 | .num s, _, _, n => (.num s, n)
 | .name s, f, t, n => (.name (match A3 f s with | some i => t.getD i [] | none => s), n)
 | .bin o a b, f, t, n => let p := a.pl av f t n; let q := b.pl av f t p.2; (.bin o p.1 q.1, q.2)
 | .ite a b c, f, t, n => let p := a.pl av f t n; let q := b.pl av f t p.2; let r := c.pl av f t q.2; (.ite p.1 q.1 r.1, r.2)
 | .lt x a b, f, t, n => let k := fr 120 av n; let p := a.pl av f t (k + 1); let q := b.pl av (f ++ [x]) (t ++ [nm 120 k]) p.2; (.lt (nm 120 k) p.1 q.1, q.2)
 | .fn g x s u b, f, t, n => let k := fr 120 av n; let j := fr 120 av (k + 1); let p := b.pl av (f ++ [g, x]) (t ++ [nm 120 k, nm 120 j]) (j + 1); (.fn (nm 120 k) (nm 120 j) s u p.1, p.2)
 | .un o a, f, t, n => let p := a.pl av f t n; (.un o p.1, p.2)
def Ex.nb : Ex → Nat
 | .num _ => 0
 | .name _ => 0
 | .bin _ a b => a.nb + b.nb
 | .ite a b c => a.nb + b.nb + c.nb
 | .lt _ a b => 1 + a.nb + b.nb
 | .fn _ _ _ _ b => 2 + b.nb
 | .un _ a => a.nb
def namesL (l : List Af) : Prop := ∀ s ∈ l, Bq s = true
theorem namesL.add {l m : List Af} (h : namesL l) (h' : namesL m) : namesL (l ++ m) := by
 intro s hs
 rcases List.mem_append.1 hs with hs | hs
 ·exact h s hs
 ·exact h' s hs
def Ex.plain (e : Ex) : Ex := (e.pl e.free [] [] 0).1
def S9 (s : Af) : Option Af := (G7 s).map fun e => e.plain.tree.text
theorem I4 {l r : List Af} {y : Af} : ∀ {n : Nat}, n ≤ l.length → Et (l ++ r) y n = Et l y n
 | 0, _ => rfl
 | n + 1, h => by
  simp only [Et]
  rw [show (l ++ r).getD n [] = l.getD n [] by simp [List.getElem?_append_left (show n < l.length by omega)], I4 (by omega)]
theorem Ga (l : List Af) (x y : Af) : A3 (l ++ [x]) y = if x = y then some l.length else A3 l y := by
 unfold A3
 rw [show (l ++ [x]).length = l.length + 1 by simp]
 simp only [Et]
 rw [show (l ++ [x]).getD l.length [] = x by simp, I4 (Nat.le_refl _)]
theorem Gb (l : List Af) (y : Af) : ∀ (a : List Af), A3 (l ++ a) y = match A3 a y with | some i => some (l.length + i) | none => A3 l y := by
 intro a
 induction a generalizing l with
 | nil => rw [List.append_nil]; rfl
 | cons x a ih =>
  have h1 := ih (l ++ [x])
  have h2 := ih [x]
  rw [List.append_assoc] at h1
  simp only [List.cons_append, List.nil_append] at h1 h2
  rw [h1, h2, Ga]
  have h3 := Ga [] x y
  simp only [List.nil_append, List.length_nil] at h3
  rw [h3]
  cases A3 a y with
  | some i => simp only [List.length_append, List.length_cons, List.length_nil]; congr 1; omega
  | none =>
   simp only
   by_cases e : x = y
   ·rw [if_pos e, if_pos e]; simp
   ·rw [if_neg e, if_neg e]; rfl
theorem M0 {l : List Af} {y : Af} {i : Nat} (h : A3 l y = some i) : i < l.length ∧ l.getD i [] = y := Ka h
theorem El {l : List Af} {y : Af} : A3 l y = none ↔ y ∉ l := by
 induction l with
 | nil => simp [A3, Et]
 | cons x l ih =>
  have h := Gb [x] y l
  simp only [List.cons_append, List.nil_append] at h
  rw [h]
  have h3 := Ga [] x y
  simp only [List.nil_append, List.length_nil] at h3
  rw [h3]
  cases hl : A3 l y with
  | some i =>
   have := Fn hl
   simp [this]
  | none =>
   rw [hl] at ih
   have h4 : y ∉ l := ih.1 rfl
   by_cases e : x = y
   ·simp [e]
   ·rw [if_neg e]
    simp only [List.mem_cons, not_or]
    exact ⟨fun _ => ⟨fun e' => e e'.symm, h4⟩, fun _ => rfl⟩
def Rl (i : Nat) : Af := 0 :: List.replicate i 0
theorem Ni {i j : Nat} (h : Rl i = Rl j) : i = j := by
 have := congrArg List.length h
 simpa [Rl] using this
theorem Ln (i : Nat) : Bq (Rl i) = false := by simp [Rl, Bq, Rf]
theorem Kp {s : Af} (h : Bq s = true) (i : Nat) : Rl i ≠ s := fun e => by rw [← e, Ln] at h; cases h
def Ex.db : Ex → List Af → Ex
 | .num s, _ => .num s
 | .name s, a => .name (match A3 a s with | some i => Rl i | none => s)
 | .bin o a b, l => .bin o (a.db l) (b.db l)
 | .ite a b c, l => .ite (a.db l) (b.db l) (c.db l)
 | .lt x a b, l => .lt [] (a.db l) (b.db (l ++ [x]))
 | .fn g x s t b, l => .fn [] [] s t (b.db (l ++ [g, x]))
 | .un o a, l => .un o (a.db l)
def Ex.alk : Ex → Ex → List Af → List Af → Bool
 | .num s, .num t, _, _ => decide (s = t)
 | .name s, .name t, a, b => decide (A3 a s = A3 b t) && ((A3 a s).isSome || decide (s = t))
 | .bin o p q, .bin o' p' q', a, b => decide (o.txt = o'.txt) && p.alk p' a b && q.alk q' a b
 | .ite p q r, .ite p' q' r', a, b => p.alk p' a b && q.alk q' a b && r.alk r' a b
 | .lt x p q, .lt x' p' q', a, b => p.alk p' a b && q.alk q' (a ++ [x]) (b ++ [x'])
 | .fn g x s t q, .fn g' x' s' t' q', a, b => decide (s = s') && decide (t = t') && q.alk q' (a ++ [g, x]) (b ++ [g', x'])
 | .un o p, .un o' p', a, b => decide (o.txt = o'.txt) && p.alk p' a b
 | _, _, _, _ => false
def freshT (av t : List Af) (n : Nat) : Prop := t.Nodup ∧ ∀ x ∈ t, x ∉ av ∧ ∃ k, k < n ∧ x = nm 120 k
theorem freshT.up {av t : List Af} {n m : Nat} (h : freshT av t n) (hm : n ≤ m) : freshT av t m := ⟨h.1, fun x hx => by obtain ⟨h1, k, h2, h3⟩ := h.2 x hx; exact ⟨h1, k, by omega, h3⟩⟩
theorem freshT.add {av t : List Af} {n k : Nat} (h : freshT av t n) (hk : n ≤ k) (ha : nm 120 k ∉ av) : freshT av (t ++ [nm 120 k]) (k + 1) := by
 refine ⟨?_, fun x hx => ?_⟩
 ·rw [List.nodup_append]; refine ⟨h.1, by simp, ?_⟩; intro x hx y hy e
  simp only [List.mem_singleton] at hy
  subst hy; subst e; obtain ⟨_, j, hj, e⟩ := h.2 _ hx
  have := Ru e
  omega
 ·rcases List.mem_append.1 hx with hx | hx
  ·obtain ⟨h1, j, h2, h3⟩ := h.2 x hx; exact ⟨h1, j, by omega, h3⟩
  ·simp only [List.mem_singleton] at hx; subst hx; exact ⟨ha, k, by omega, rfl⟩
def Ex.fv : Ex → List Af
 | .num _ => []
 | .name s => if Bq s = true then [s] else []
 | .bin _ a b => a.fv ++ b.fv
 | .ite a b c => a.fv ++ b.fv ++ c.fv
 | .lt _ a b => a.fv ++ b.fv
 | .fn _ _ _ _ b => b.fv
 | .un _ a => a.fv
theorem Ex.occ_db : ∀ {e : Ex} {a : List Af}, e.ok = true → e.occ a = (e.db a).fv := by
 intro e
 induction e with
 | num s => intro a _; rfl
 | name s =>
  intro a h
  simp only [Ex.ok] at h
  simp only [Ex.occ, Ex.db, Ex.fv]
  cases hs : A3 a s with
  | none => simp only [if_pos h]; rw [if_neg (El.1 hs)]
  | some i => simp only [Ln, Bool.false_eq_true, if_false]; rw [if_pos (Fn hs)]
 | bin o p q ih1 ih2 => intro a h; simp only [Ex.ok, Bool.and_eq_true] at h; simp only [Ex.occ, Ex.db, Ex.fv, ih1 h.1, ih2 h.2]
 | ite p q r ih1 ih2 ih3 => intro a h; simp only [Ex.ok, Bool.and_eq_true] at h; simp only [Ex.occ, Ex.db, Ex.fv, ih1 h.1.1, ih2 h.1.2, ih3 h.2]
 | lt x p q ih1 ih2 => intro a h; simp only [Ex.ok, Bool.and_eq_true] at h; simp only [Ex.occ, Ex.db, Ex.fv, ih1 h.1.2, ih2 h.2]
 | fn g x s u q ih => intro a h; simp only [Ex.ok, Bool.and_eq_true] at h; simp only [Ex.occ, Ex.db, Ex.fv, ih h.2]
 | un o p ih => intro a h; simp only [Ex.ok] at h; simp only [Ex.occ, Ex.db, Ex.fv, ih h]
def Ex.as (e e' : Ex) : Prop := e.db [] = e'.db []
theorem Ex.as.free {e e' : Ex} (h : e.as e') (ho : e.ok = true) (ho' : e'.ok = true) : e.free = e'.free ∧ e.occ [] = e'.occ [] := by
 have h1 : e.occ [] = e'.occ [] := by rw [Ex.occ_db ho, Ex.occ_db ho', show e.db [] = e'.db [] from h]
 exact ⟨by unfold Ex.free; rw [h1], h1⟩
theorem Ex.db_size : ∀ (e : Ex) (a : List Af), (e.db a).size = e.size ∧ (e.db a).tree.depth = e.tree.depth := by
 intro e
 induction e with
 | num s => intro a; exact ⟨rfl, rfl⟩
 | name s => intro a; exact ⟨rfl, rfl⟩
 | bin o p q ih1 ih2 => intro a; obtain ⟨h1, h2⟩ := ih1 a; obtain ⟨h3, h4⟩ := ih2 a; simp only [Ex.db, Ex.size, Ex.tree, Tree.depth, Bz, List.isEmpty_cons, cond_false, h1, h2, h3, h4, and_self]
 | ite p q r ih1 ih2 ih3 => intro a; obtain ⟨h1, h2⟩ := ih1 a; obtain ⟨h3, h4⟩ := ih2 a; obtain ⟨h5, h6⟩ := ih3 a; simp only [Ex.db, Ex.size, Ex.tree, Tree.depth, Bz, List.isEmpty_cons, cond_false, h1, h2, h3, h4, h5, h6, and_self]
 | lt x p q ih1 ih2 => intro a; obtain ⟨h1, h2⟩ := ih1 a; obtain ⟨h3, h4⟩ := ih2 (a ++ [x]); simp only [Ex.db, Ex.size, Ex.tree, Tree.depth, Bz, List.isEmpty_cons, List.isEmpty_nil, cond_true, cond_false, h1, h2, h3, h4, and_self]
 | fn g x s u q ih => intro a; obtain ⟨h1, h2⟩ := ih (a ++ [g, x]); simp only [Ex.db, Ex.size, Ex.tree, Tree.depth, Bz, List.isEmpty_cons, List.isEmpty_nil, cond_true, cond_false, h1, h2, and_self]
 | un o p ih => intro a; obtain ⟨h1, h2⟩ := ih a; simp only [Ex.db, Ex.size, Ex.tree, Tree.depth, Bz, List.isEmpty_cons, cond_false, h1, h2, and_self]
theorem Ex.as.size {e e' : Ex} (h : e.as e') : e.size = e'.size ∧ e.tree.depth = e'.tree.depth := by
 have h1 := e.db_size []
 have h2 := e'.db_size []
 rw [show e.db [] = e'.db [] from h] at h1
 exact ⟨h1.1.symm.trans h2.1, h1.2.symm.trans h2.2⟩
theorem Ex.db_in : ∀ {v : Ex} {a b c : List Af}, a.length = b.length → v.occ c = [] → v.db (a ++ c) = v.db (b ++ c) := by
 intro v
 induction v with
 | num s => intro a b c _ _; rfl
 | name s =>
  intro a b c hl h
  simp only [Ex.occ] at h
  have hc : s ∈ c := by
   by_cases hm : s ∈ c
   ·exact hm
   ·rw [if_neg hm] at h; cases h
  simp only [Ex.db, Gb]
  cases hs : A3 c s with
  | none => exact absurd hc (El.1 hs)
  | some i => simp only [hl]
 | bin o p q ih1 ih2 => intro a b c hl h; simp only [Ex.occ, List.append_eq_nil_iff] at h; simp only [Ex.db, ih1 hl h.1, ih2 hl h.2]
 | ite p q r ih1 ih2 ih3 => intro a b c hl h; simp only [Ex.occ, List.append_eq_nil_iff] at h; simp only [Ex.db, ih1 hl h.1.1, ih2 hl h.1.2, ih3 hl h.2]
 | lt x p q ih1 ih2 => intro a b c hl h; simp only [Ex.occ, List.append_eq_nil_iff] at h; simp only [Ex.db, List.append_assoc, ih1 hl h.1, ih2 hl h.2]
 | fn g x s u q ih => intro a b c hl h; simp only [Ex.occ] at h; simp only [Ex.db, List.append_assoc, ih hl h]
 | un o p ih => intro a b c hl h; simp only [Ex.occ] at h; simp only [Ex.db, ih hl h]
theorem Ex.db_cl {v : Ex} (h : v.occ [] = []) {a b : List Af} (hl : a.length = b.length) : v.db a = v.db b := by
 have := Ex.db_in (v := v) (c := []) hl h
 simpa using this
def Ex.putIf (e : Ex) (n : Af) (v : Ex) (a : List Af) : Ex := if n ∈ a then e else e.put n v
theorem Pv {e : Ex} {n : Af} {v : Ex} {a : List Af} (h : n ∈ a) : e.putIf n v a = e := if_pos h
theorem Gp {e : Ex} {n : Af} {v : Ex} {a : List Af} (h : n ∉ a) : e.putIf n v a = e.put n v := if_neg h
theorem Oi (o : B5) (p q : Ex) (n : Af) (v : Ex) (a : List Af) : (Ex.bin o p q).putIf n v a = .bin o (p.putIf n v a) (q.putIf n v a) := by unfold Ex.putIf; split <;> rfl
theorem Oo (p q r : Ex) (n : Af) (v : Ex) (a : List Af) : (Ex.ite p q r).putIf n v a = .ite (p.putIf n v a) (q.putIf n v a) (r.putIf n v a) := by unfold Ex.putIf; split <;> rfl
theorem Px (o : U2) (p : Ex) (n : Af) (v : Ex) (a : List Af) : (Ex.un o p).putIf n v a = .un o (p.putIf n v a) := by unfold Ex.putIf; split <;> rfl
theorem Pw (x : Af) (p q : Ex) (n : Af) (v : Ex) (a : List Af) : (Ex.lt x p q).putIf n v a = .lt x (p.putIf n v a) (q.putIf n v (a ++ [x])) := by
 unfold Ex.putIf
 simp only [List.mem_append, List.mem_singleton, Ex.put]
 by_cases h : n ∈ a
 ·simp [h]
 ·by_cases h2 : x = n
  ·subst h2; simp [h]
  ·have h3 : ¬ n = x := fun e => h2 e.symm
   simp [h, h2, h3]
theorem Pu (g x : Af) (s u : Ty) (q : Ex) (n : Af) (v : Ex) (a : List Af) : (Ex.fn g x s u q).putIf n v a = .fn g x s u (q.putIf n v (a ++ [g, x])) := by
 unfold Ex.putIf
 simp only [List.mem_append, List.mem_cons, List.not_mem_nil, or_false, Ex.put]
 by_cases h : n ∈ a
 ·simp [h]
 ·by_cases h2 : g = n ∨ x = n
  ·have : n = g ∨ n = x := h2.imp Eq.symm Eq.symm
   simp [h, h2, this]
  ·have : ¬ (n = g ∨ n = x) := fun e => h2 (e.imp Eq.symm Eq.symm)
   simp [h, h2, this]
theorem Ex.put_db {n : Af} {v : Ex} (hv : v.occ [] = []) : ∀ {e e' : Ex} {a b : List Af}, a.length = b.length → e.ok = true → e'.ok = true → e.db a = e'.db b → (e.putIf n v a).db a = (e'.putIf n v b).db b := by
 intro e
 induction e with
 | num s => intro e' a b hl h h' hd; cases e' <;> simp only [Ex.db, reduceCtorEq] at hd; cases hd; unfold Ex.putIf; split <;> split <;> rfl
 | name s =>
  intro e' a b hl h h' hd
  cases e' <;> simp only [Ex.db, reduceCtorEq] at hd
  rename_i s'
  simp only [Ex.ok] at h h'
  simp only [Ex.name.injEq] at hd
  cases hs : A3 a s with
  | none => cases ht : A3 b s' with
   | none =>
    rw [hs, ht] at hd; simp only at hd; subst hd
    have h1 := El.1 hs
    have h2 := El.1 ht
    by_cases e : s = n
    ·subst e; rw [Gp h1, Gp h2]
     simp only [Ex.put, if_true]
     exact Ex.db_cl hv hl
    ·have h3 : ∀ c, (Ex.name s).putIf n v c = .name s := fun c => by unfold Ex.putIf; split <;> simp [Ex.put, e]
     rw [h3, h3]; simp only [Ex.db, hs, ht]
   | some j => rw [hs, ht] at hd; exact absurd hd.symm (Kp h j)
  | some i => cases ht : A3 b s' with
   | none => rw [hs, ht] at hd; exact absurd hd (Kp h' i)
   | some j =>
    rw [hs, ht] at hd
    have h3 : ∀ {c : List Af} {z : Af}, z ∈ c → (Ex.name z).putIf n v c = .name z := fun {c z} hz => by
     by_cases e : z = n
     ·subst e; exact Pv hz
     ·unfold Ex.putIf; split <;> simp [Ex.put, e]
    rw [h3 (Fn hs), h3 (Fn ht)]
    simp only [Ex.db, hs, ht, Ni hd]
 | bin o p q ih1 ih2 =>
  intro e' a b hl h h' hd
  cases e' <;> simp only [Ex.db, reduceCtorEq] at hd
  simp only [Ex.ok, Bool.and_eq_true] at h h'
  simp only [Ex.bin.injEq] at hd
  simp only [Oi, Ex.db, ih1 hl h.1 h'.1 hd.2.1, ih2 hl h.2 h'.2 hd.2.2, hd.1]
 | ite p q r ih1 ih2 ih3 =>
  intro e' a b hl h h' hd
  cases e' <;> simp only [Ex.db, reduceCtorEq] at hd
  simp only [Ex.ok, Bool.and_eq_true] at h h'
  simp only [Ex.ite.injEq] at hd
  simp only [Oo, Ex.db, ih1 hl h.1.1 h'.1.1 hd.1, ih2 hl h.1.2 h'.1.2 hd.2.1, ih3 hl h.2 h'.2 hd.2.2]
 | lt x p q ih1 ih2 =>
  intro e' a b hl h h' hd
  cases e' <;> simp only [Ex.db, reduceCtorEq] at hd
  rename_i x' p' q'
  simp only [Ex.ok, Bool.and_eq_true] at h h'
  simp only [Ex.lt.injEq] at hd
  simp only [Pw, Ex.db, ih1 hl h.1.2 h'.1.2 hd.2.1, ih2 (a := a ++ [x]) (b := b ++ [x']) (by simp [hl]) h.2 h'.2 hd.2.2]
 | fn g x s u q ih =>
  intro e' a b hl h h' hd
  cases e' <;> simp only [Ex.db, reduceCtorEq] at hd
  rename_i g' x' s' u' q'
  simp only [Ex.ok, Bool.and_eq_true] at h h'
  simp only [Ex.fn.injEq] at hd
  simp only [Pu, Ex.db, ih (a := a ++ [g, x]) (b := b ++ [g', x']) (by simp [hl]) h.2 h'.2 hd.2.2.2.2, hd.2.2.1, hd.2.2.2.1]
 | un o p ih =>
  intro e' a b hl h h' hd
  cases e' <;> simp only [Ex.db, reduceCtorEq] at hd
  simp only [Ex.ok] at h h'
  simp only [Ex.un.injEq] at hd
  simp only [Px, Ex.db, ih hl h h' hd.2, hd.1]
theorem Ex.as.put {e e' : Ex} (h : e.as e') (ho : e.ok = true) (ho' : e'.ok = true) {n : Af} {v : Ex} (hv : v.occ [] = []) : (e.put n v).as (e'.put n v) := by
 have := Ex.put_db (n := n) hv (a := []) (b := []) rfl ho ho' h
 rwa [Gp (by simp), Gp (by simp)] at this
/- Types of alike expressions. -/
theorem ty_bin (o : B5) (a b : Ex) (l : List Af) (m : List Ty) : (Ex.bin o a b).ty l m = (a.ty l m).bind fun s => (b.ty l m).bind fun t => o.ty s t := by
 unfold Ex.ty; simp only [Ex.chk]
 cases a.chk l m with
 | error x => rfl
 | ok s => cases b.chk l m with
  | error x => rfl
  | ok t => simp only [Option.bind_some]; cases o.ty s t <;> rfl
theorem ty_ite (a b c : Ex) (l : List Af) (m : List Ty) : (Ex.ite a b c).ty l m = (a.ty l m).bind fun s => (b.ty l m).bind fun t => (c.ty l m).bind fun u => if s = .i ∧ t = u then some t else none := by
 unfold Ex.ty; simp only [Ex.chk]
 cases a.chk l m with
 | error x => rfl
 | ok s => cases b.chk l m with
  | error x => rfl
  | ok t => cases c.chk l m with
   | error x => rfl
   | ok u =>
    simp only [Option.bind_some]
    by_cases h : s = .i ∧ t = u
    ·rw [if_pos h, if_pos h]
    ·rw [if_neg h, if_neg h]
theorem ty_lt (x : Af) (a b : Ex) (l : List Af) (m : List Ty) : (Ex.lt x a b).ty l m = (a.ty l m).bind fun s => b.ty (l ++ [x]) (m ++ [s]) := by
 unfold Ex.ty; simp only [Ex.chk]
 cases a.chk l m <;> rfl
theorem ty_fn (f x : Af) (s t : Ty) (b : Ex) (l : List Af) (m : List Ty) : (Ex.fn f x s t b).ty l m = if (Ty.fn s t).size ≤ 16 then (b.ty (l ++ [f, x]) (m ++ [.fn s t, s])).bind fun u => if u = t then some (.fn s t) else none else none := by
 unfold Ex.ty; simp only [Ex.chk]
 by_cases h : (Ty.fn s t).size ≤ 16
 ·rw [if_pos h, if_pos h]
  cases b.chk (l ++ [f, x]) (m ++ [.fn s t, s]) with
  | error x => rfl
  | ok u =>
   simp only [Option.bind_some]
   by_cases h : u = t
   ·rw [if_pos h, if_pos h]
   ·rw [if_neg h, if_neg h]
 ·rw [if_neg h, if_neg h]
theorem ty_un (o : U2) (a : Ex) (l : List Af) (m : List Ty) : (Ex.un o a).ty l m = (a.ty l m).bind fun s => o.ty s := by
 unfold Ex.ty; simp only [Ex.chk]
 cases a.chk l m with
 | error x => rfl
 | ok s => simp only [Option.bind_some]; cases o.ty s <;> rfl
theorem ty_name (s : Af) (l : List Af) (m : List Ty) : (Ex.name s).ty l m = Ft l m s := by
 unfold Ex.ty; simp only [Ex.chk]
 cases Ft l m s <;> rfl
theorem Jk {l a : List Af} {m k : List Ty} (h : l.length = m.length) (s : Af) : Ft (l ++ a) (m ++ k) s = match A3 a s with | some i => k[i]? | none => Ft l m s := by
 unfold Ft
 rw [Gb]
 cases hs : A3 a s with
 | some i => simp only [Option.bind_some, h]; rw [List.getElem?_append_right (by omega)]; congr 1; omega
 | none =>
  simp only
  cases hi : A3 l s with
  | none => rfl
  | some i =>
   have := (M0 hi).1
   simp only [Option.bind_some]; rw [List.getElem?_append_left (by omega)]
theorem Ex.ty_db {l : List Af} {m : List Ty} (hlm : l.length = m.length) : ∀ {e e' : Ex} {a b : List Af} {k : List Ty}, a.length = k.length → b.length = k.length → e.ok = true → e'.ok = true → e.db a = e'.db b → e.ty (l ++ a) (m ++ k) = e'.ty (l ++ b) (m ++ k) := by
 intro e
 induction e with
 | num s => intro e' a b k h1 h2 h h' hd; cases e' <;> simp only [Ex.db, reduceCtorEq] at hd; rfl
 | name s =>
  intro e' a b k h1 h2 h h' hd
  cases e' <;> simp only [Ex.db, reduceCtorEq] at hd
  rename_i s'
  simp only [Ex.ok] at h h'
  simp only [Ex.name.injEq] at hd
  rw [ty_name, ty_name, Jk hlm, Jk hlm]
  cases hs : A3 a s with
  | none => cases ht : A3 b s' with
   | none => rw [hs, ht] at hd; simp only at hd; subst hd; rfl
   | some j => rw [hs, ht] at hd; exact absurd hd.symm (Kp h j)
  | some i => cases ht : A3 b s' with
   | none => rw [hs, ht] at hd; exact absurd hd (Kp h' i)
   | some j => rw [hs, ht] at hd; rw [Ni hd]
 | bin o p q ih1 ih2 =>
  intro e' a b k h1 h2 h h' hd
  cases e' <;> simp only [Ex.db, reduceCtorEq] at hd
  simp only [Ex.ok, Bool.and_eq_true] at h h'
  simp only [Ex.bin.injEq] at hd
  rw [ty_bin, ty_bin, ih1 h1 h2 h.1 h'.1 hd.2.1, ih2 h1 h2 h.2 h'.2 hd.2.2, hd.1]
 | ite p q r ih1 ih2 ih3 =>
  intro e' a b k h1 h2 h h' hd
  cases e' <;> simp only [Ex.db, reduceCtorEq] at hd
  simp only [Ex.ok, Bool.and_eq_true] at h h'
  simp only [Ex.ite.injEq] at hd
  rw [ty_ite, ty_ite, ih1 h1 h2 h.1.1 h'.1.1 hd.1, ih2 h1 h2 h.1.2 h'.1.2 hd.2.1, ih3 h1 h2 h.2 h'.2 hd.2.2]
 | lt x p q ih1 ih2 =>
  intro e' a b k h1 h2 h h' hd
  cases e' <;> simp only [Ex.db, reduceCtorEq] at hd
  rename_i x' p' q'
  simp only [Ex.ok, Bool.and_eq_true] at h h'
  simp only [Ex.lt.injEq] at hd
  rw [ty_lt, ty_lt, ih1 h1 h2 h.1.2 h'.1.2 hd.2.1]
  congr 1; funext s
  have := ih2 (a := a ++ [x]) (b := b ++ [x']) (k := k ++ [s]) (by simp [h1]) (by simp [h2]) h.2 h'.2 hd.2.2
  simpa only [List.append_assoc] using this
 | fn g x s u q ih =>
  intro e' a b k h1 h2 h h' hd
  cases e' <;> simp only [Ex.db, reduceCtorEq] at hd
  rename_i g' x' s' u' q'
  simp only [Ex.ok, Bool.and_eq_true] at h h'
  simp only [Ex.fn.injEq] at hd
  obtain ⟨-, -, rfl, rfl, hd⟩ := hd
  have := ih (a := a ++ [g, x]) (b := b ++ [g', x']) (k := k ++ [.fn s u, s]) (by simp [h1]) (by simp [h2]) h.2 h'.2 hd
  simp only [← List.append_assoc] at this
  rw [ty_fn, ty_fn, this]
 | un o p ih =>
  intro e' a b k h1 h2 h h' hd
  cases e' <;> simp only [Ex.db, reduceCtorEq] at hd
  simp only [Ex.ok] at h h'
  simp only [Ex.un.injEq] at hd
  rw [ty_un, ty_un, ih h1 h2 h h' hd.2, hd.1]
theorem Ex.as.ty {e e' : Ex} (h : e.as e') (ho : e.ok = true) (ho' : e'.ok = true) {l : List Af} {m : List Ty} (hlm : l.length = m.length) : e.ty l m = e'.ty l m := by
 have := Ex.ty_db hlm (a := []) (b := []) (k := []) rfl rfl ho ho' h
 simpa using this
theorem Ex.as.hd {e e' : Ex} (h : e.as e') : e.hd = e'.hd := by
 have h : e.db [] = e'.db [] := h
 cases e <;> cases e' <;> simp only [Ex.db, reduceCtorEq] at h <;> first
  | rfl
  | (simp only [Ex.bin.injEq] at h; simp only [Ex.hd, h.1]; rfl)
  | (simp only [Ex.un.injEq] at h; simp only [Ex.hd, h.1]; rfl)
theorem Ex.as.symm {e e' : Ex} (h : e.as e') : e'.as e := Eq.symm h
theorem Ex.as.trans {e e' e'' : Ex} (h : e.as e') (h' : e'.as e'') : e.as e'' := Eq.trans h h'
def T7 (s nm by' : Af) : Option Af := match G7 s, F5 by' with
 | some e, some v => if Bq nm = true ∧ (e.put nm v).fine = true then some (e.put nm v).tree.text else none
 | _, _ => none
def Ue : Ex := .num [48]
def Ex.puts (e : Ex) (l : List Af) : Ex := l.foldl (fun e n => e.put n Ue) e
def S5 (s n : Af) : Int := match G7 s with
 | some e => if Bq n = true then (((e.occ []).count n : Nat) : Int) else -1
 | none => -1
def S3 (a b : Af) : Bool := match G7 a, G7 b with
 | some e, some f => e.alk f [] []
 | _, _ => false
def R1 (n : Int) : Int := (n + 500) % 1000 - 500
def B5.calc (o : B5) (x y : Int) : Int := match o with
 | .add => x + y
 | .sub => x - y
 | _ => x * y
def B5.nums : B5 → Bool
 | .call => false
 | .pair => false
 | _ => true
def Tt (o : B5) (a b : Af) : Af := Tl (R1 (o.calc (B6 a) (B6 b)))
def Ex.turn : Ex → Option Ex
 | .bin .call (.fn f x s t b) v => some ((b.put f (.fn f x s t b)).put x v)
 | .bin o (.num a) (.num b) => if o.nums = true then some (.num (Tt o a b)) else none
 | .ite (.num a) b c => some (if a = [48] then b else c)
 | .lt x a b => some (b.put x a)
 | .un .fst (.bin .pair a b) => some a
 | .un .snd (.bin .pair a b) => some b
 | _ => none
def Ex.step : Ex → Option Ex
 | .bin o a b => if a.value = false then a.step.map fun c => .bin o c b else if b.value = false then b.step.map fun c => .bin o a c else (Ex.bin o a b).turn
 | .ite a b c => if a.value = false then a.step.map fun d => .ite d b c else (Ex.ite a b c).turn
 | .lt x a b => if a.value = false then a.step.map fun d => .lt x d b else (Ex.lt x a b).turn
 | .un o a => if a.value = false then a.step.map fun d => .un o d else (Ex.un o a).turn
 | _ => none
def U2.pick (o : U2) (p q : Ex) : Ex := match o with
 | .fst => p
 | .snd => q
def Ex.go (e : Ex) : Option Ex := if e.value = true then none else e.step.bind fun e' => if e'.fine = true then some e' else none
def Tz (s : Af) : Option Af := (F5 s).bind fun e => e.go.map fun e' => e'.tree.text
def Tc (s : Af) : Bool := match F5 s with
 | some e => !e.value && e.step.isNone
 | none => false
def Ex.goes (e : Ex) : Nat → Ex × Nat
 | 0 => (e, 0)
 | n + 1 => match e.go with
  | some e' => ((e'.goes n).1, (e'.goes n).2 + 1)
  | none => (e, 0)
theorem Mem.frozenAt {I : Heap} {L : At} {b k m : Nat} {o : Obj} {w : World} (h : Mem I ((b, o) :: L) w) : Mem I L (w.freeze ⟨b, k, none⟩ m) := by
 obtain ⟨h1, h2, h3⟩ := h
 have hb := h2 (b, o) (.head _)
 have hn : b ∉ L.map (·.1) ∧ (L.map (·.1)).Nodup := List.nodup_cons.1 h3
 unfold World.freeze
 split
 ·exact ⟨h1, fun p hp => h2 p (.tail _ hp), hn.2⟩
 ·refine ⟨⟨fun c u hc => ?_, h1.2⟩, fun p hp => ⟨?_, (h2 p (.tail _ hp)).2⟩, hn.2⟩
  ·have hne : b ≠ c := fun e => by subst e; rw [hb.2] at hc; cases hc
   simp only [Array.getElem?_modify, if_neg hne]
   exact h1.1 c u hc
  ·have hne : b ≠ p.1 := fun e => hn.1 (e ▸ List.mem_map.2 ⟨p, hp, rfl⟩)
   simp only [Array.getElem?_modify, if_neg hne]
   exact (h2 p (.tail _ hp)).1
theorem H3 : ∀ (l : Af) (a : Nat), l.all C8 = true → Lib.decFrom a l = some (l.foldl (fun n b => 10 * n + (b.toNat - 48)) a)
 | [], a, _ => rfl
 | b :: r, a, h => by
  simp only [List.all_cons, Bool.and_eq_true] at h
  have hb : 48 ≤ b.toNat ∧ b.toNat ≤ 57 := by have := h.1; simpa [C8] using this
  have := H3 r (a * 10 + (b.toNat - 48)) h.2
  rw [Nat.mul_comm a 10] at this
  simp only [Lib.decFrom, Lib.digitVal, if_pos hb, List.foldl_cons]
  rw [Nat.mul_comm a 10]; exact this
theorem Mu {l : Af} (h : l.all C8 = true) (h1 : 1 ≤ l.length) : Lib.decNat l = some (Bt l) := by
 unfold Lib.decNat
 rw [if_neg (by cases l <;> simp at h1 ⊢)]
 exact H3 l 0 h
theorem O4 {s : Af} (h : Az s = true) : Lib.atoi s = some (B6 s) := by
 unfold B6
 split
 ·rename_i h0; subst h0; rfl
 ·rename_i h0
  simp only [Az, h0, decide_false, Bool.false_or, Bool.and_eq_true, decide_eq_true_eq] at h
  have h1 := Mu h.1.2 h.1.1.1
  cases s with
  | nil => simp [Bf] at h
  | cons b r =>
   simp only [List.getD_cons_zero] at *
   by_cases h45 : b.toNat = 45
   ·have hb : (b == 45) = true := by simpa using UInt8.toNat_inj.1 (by rw [h45]; rfl)
    have hu : Bf (b :: r) = r := by unfold Bf; simp [h45]
    rw [hu] at h1 ⊢
    simp only [Lib.atoi, hb, if_true, h1, h45]
    simp
   ·have hb : (b == 45) = false := by
     simp only [beq_eq_false_iff_ne]; intro e; exact h45 (by rw [e]; rfl)
    have hu : Bf (b :: r) = b :: r := by unfold Bf; simp [h45]
    rw [hu] at h1 h ⊢
    have hd : C8 b = true := by have := h.1.2; simp only [List.all_cons, Bool.and_eq_true] at this; exact this.1
    have h43 : (b == 43) = false := by
     simp only [beq_eq_false_iff_ne]; intro e; rw [e] at hd; exact absurd hd (by decide)
    simp only [Lib.atoi, hb, h43, Bool.false_eq_true, if_false, h1, h45]
    simp
theorem Iy (s : Af) (hs : Az s = true) (I : Heap) (L : At) : Fun Tryd.prog 22 [.string (str s)] I L (Cr (.int .i64 (B6 s)) I L) := by
 have hat : Fun Tryd.prog 43 [.string (str s)] I L (Cr (.tuple #[.int .i64 (B6 s), .nilIface]) I L) := by
  refine ⟨fun w hm => (Any.strconv_Atoi Qn (str s) (B6 s) ?_ ?_ w).mono ?_⟩
  ·have := J9 hs
   show s.toArray.size ≤ 18
   simp; omega
  ·show Lib.atoi (s.toArray.toList) = _
   exact O4 hs
  ·rintro e w' ⟨rfl, t, rfl⟩
   exact ⟨_, I, L, rfl, .refl _, Mem.frozenAt (hm.alloc _), rfl, rfl, rfl⟩
 refine Ag (by simp) ?_; refine Se rfl (Oa rfl (Aa (Se rfl (Om rfl ?_)))); refine Bs rfl .free rfl hat ?_; rintro _ _ _ _ ⟨rfl, rfl, rfl⟩; refine Om rfl (Oe rfl rfl (Oe rfl rfl (Oa rfl (Oa rfl (Aa (Se rfl (Om rfl (Oa rfl (Aa (Ac (.tmp rfl .nil) ?_)))))))))); refine only rfl ?_
 simp [Bj, *]
mutual
def Tree.tgt : Bool → Tree → Bool
 | b, .node a ps => bif ps.isEmpty then decide (a = [105]) || (b && decide (a = [118])) else Nb b ps
def Nb : Bool → List Tree → Bool
 | _, [] => false
 | b, p :: ps => if p.atom = [101] then Q3 ps else if p.atom = [116] ∨ p.atom = [99] then Oy b ps else false
def Q3 : List Tree → Bool
 | [] => false
 | q :: qs => q.tgt true && qs.isEmpty
def Oy : Bool → List Tree → Bool
 | _, [] => true
 | b, q :: qs => q.tgt b && Oy b qs
end
abbrev Tree.target (t : Tree) (b : Bool) : Bool := Tree.tgt b t
theorem Mm {t : Tree} (h : t.parts = []) (b : Bool) : t.target b = (decide (t.atom = [105]) || (b && decide (t.atom = [118]))) := by
 cases t with
 | node a ps =>
  obtain rfl : ps = [] := h
  rfl
theorem P7 {t : Tree} (h : t.parts ≠ []) (hh : t.head = [101]) (b : Bool) : t.target b = (decide (t.parts.length = 2) && (t.pt 1).target true) := by
 cases t with
 | node a ps =>
  cases ps with
  | nil => exact absurd rfl h
  | cons p ps =>
   have hp : p.atom = [101] := hh
   have h1 : (Tree.node a (p :: ps)).target b = Q3 ps := by
    show Nb b (p :: ps) = _
    simp only [Nb]; rw [if_pos hp]
   rw [h1]
   cases ps with
   | nil => simp [Q3, Tree.parts]
   | cons q qs => cases qs <;> simp [Q3, Tree.parts, Tree.pt]
theorem Ml {b : Bool} : ∀ {ts : List Tree}, Oy b ts = true ↔ ∀ j, j < ts.length → (ts.getD j Sv).target b = true
 | [] => by simp [Oy]
 | q :: qs => by
  simp only [Oy, Bool.and_eq_true, Ml (ts := qs)]
  constructor
  ·rintro ⟨h1, h2⟩ j hj
   cases j with
   | zero => exact h1
   | succ j => simpa using h2 j (by simpa using hj)
  ·intro h
   exact ⟨h 0 (by simp), fun j hj => by simpa using h (j + 1) (by simpa using hj)⟩
theorem Lh {t : Tree} (h : t.parts ≠ []) (hh : t.head = [116] ∨ t.head = [99]) (b : Bool) : t.target b = true ↔ ∀ j, 1 ≤ j → j < t.parts.length → (t.pt j).target b = true := by
 cases t with
 | node a ps =>
  cases ps with
  | nil => exact absurd rfl h
  | cons p ps =>
   have hp : p.atom = [116] ∨ p.atom = [99] := hh
   have h1 : (Tree.node a (p :: ps)).target b = Oy b ps := by
    show Nb b (p :: ps) = _
    simp only [Nb]; rw [if_neg (by rcases hp with h | h <;> rw [h] <;> decide), if_pos hp]
   rw [h1, Ml]
   simp only [Tree.parts, Tree.pt, List.length_cons]
   constructor
   ·intro h2 j hj hl; obtain ⟨j, rfl⟩ : ∃ i, j = i + 1 := ⟨j - 1, by omega⟩
    simpa using h2 j (by omega)
   ·intro h2 j hj
    simpa using h2 (j + 1) (by omega) (by omega)
theorem P8 {t : Tree} (h : t.parts ≠ []) (h1 : t.head ≠ [101]) (h2 : t.head ≠ [116]) (h3 : t.head ≠ [99]) (b : Bool) : t.target b = false := by
 cases t with
 | node a ps =>
  cases ps with
  | nil => exact absurd rfl h
  | cons p ps =>
   show Nb b (p :: ps) = _
   simp only [Nb]
   rw [if_neg (show ¬ p.atom = [101] from h1), if_neg (fun e => e.elim h2 h3)]
def Cn (s : Af) : Bool := Az s && decide (0 ≤ B6 s ∧ B6 s ≤ 39)
def Gv (s : Af) (i : Nat) : Bool := (decide (97 ≤ (s.getD i 0).toNat) && decide ((s.getD i 0).toNat ≤ 122)) || (decide (0 < i) && decide (48 ≤ (s.getD i 0).toNat) && decide ((s.getD i 0).toNat ≤ 57))
def Gu (s : Af) : Bool := decide (s ≠ [] ∧ ∀ i, i < s.length → Gv s i = true)
theorem N3 : Cn [] = false := by decide
def Er (h : Af) (n : Nat) : Af :=
 if h = [99, 111, 110, 115, 116] then [100, 110] else if h = [109, 111, 118] ∨ h = [111, 112, 101, 110] then [100, 115]
 else if h = [97, 100, 100] ∨ h = [115, 117, 98] ∨ h = [109, 117, 108] then [100, 115, 115] else if h = [110, 101, 119] then 100 :: List.replicate (n - 2) 115
 else if h = [103, 101, 116] then [100, 115, 109] else if h = [108, 97, 98] then [100, 108] else if h = [112, 97, 99, 107] then [100, 115, 69, 87]
 else if h = [122, 101, 114, 111] then [115, 108] else if h = [106, 117, 109, 112] ∨ h = [104, 97, 108, 116] then [115] else []
def Fd (h : Af) : Af :=
 if h = [99, 111, 110, 115, 116] then [114, 110] else if h = [109, 111, 118] ∨ h = [111, 112, 101, 110] then [114, 114]
 else if h = [97, 100, 100] ∨ h = [115, 117, 98] ∨ h = [109, 117, 108] then [114, 114, 114] else if h = [110, 101, 119] then [114, 42]
 else if h = [103, 101, 116] then [114, 114, 110] else if h = [108, 97, 98] ∨ h = [122, 101, 114, 111] then [114, 108] else if h = [112, 97, 99, 107] then [114, 114, 101, 119]
 else if h = [106, 117, 109, 112] ∨ h = [104, 97, 108, 116] then [114] else []
def Mb (c : Nat) (t : Tree) : Bool :=
 if c = 100 ∨ c = 115 then Cn t.atom else if c = 110 then Az t.atom else if c = 109 then Az t.atom && decide (0 ≤ B6 t.atom) else if c = 108 then Gu t.atom
 else if c = 69 then t.is [101] 2 && t.target false else if c = 87 then t.target false else false
def Ms (c : Nat) (t : Tree) : Bool :=
 if c = 114 ∨ c = 42 then Cn t.atom else if c = 110 then Az t.atom else if c = 108 then Gu t.atom else if c = 101 then decide (t.head = [101]) && t.target false else t.target false
def Tree.instr (t : Tree) : Bool := decide (Er t.head t.parts.length ≠ [] ∧ t.parts.length = (Er t.head t.parts.length).length + 1 ∧ ∀ i, i < (Er t.head t.parts.length).length → Mb ((Er t.head t.parts.length).getD i 0).toNat (t.pt (i + 1)) = true)
def Tree.instrS (t : Tree) : Bool := decide (Fd t.head ≠ [] ∧ ¬ ((Fd t.head ≠ [114, 42] ∧ t.parts.length ≠ (Fd t.head).length + 1) ∨ t.parts.length < 2) ∧
 (∀ i, i < t.parts.length → 1 ≤ i → Ms ((Fd t.head).getD (min i (Fd t.head).length - 1) 0).toNat (t.pt i) = true) ∧ (t.head = [103, 101, 116] → 0 ≤ B6 (t.pt 3).atom))
theorem Tm (t : Tree) : (t.is [101] 2 && t.target false) = (decide (t.head = [101]) && t.target false) := by
 by_cases hp : t.parts = []
 ·have h1 : t.is [101] 2 = false := by
   cases h : t.is [101] 2 with
   | false => rfl
   | true => have := Rr h; rw [hp] at this; cases this
  have h2 : t.head ≠ [101] := by unfold Tree.head; rw [hp]; exact fun e => by cases e
  rw [h1, decide_eq_false h2]
 ·by_cases hh : t.head = [101]
  ·rw [P7 hp hh]
   by_cases hl : t.parts.length = 2
   ·have h1 : t.is [101] 2 = true := by simp [Tree.is, hl, hh]
    rw [h1, decide_eq_true hh]
   ·have h1 : t.is [101] 2 = false := by simp [Tree.is, hl]
    rw [h1, decide_eq_false hl]; simp
  ·have h1 : t.is [101] 2 = false := by simp [Tree.is, hh]
   rw [h1, decide_eq_false hh]
theorem Ff (t : Tree) : Ms 114 t = Cn t.atom := if_pos (.inl rfl)
theorem Fg (t : Tree) : Ms 42 t = Cn t.atom := if_pos (.inr rfl)
theorem Fz (t : Tree) : Ms 110 t = Az t.atom := rfl
theorem Fy (t : Tree) : Ms 108 t = Gu t.atom := rfl
theorem Fx (t : Tree) : Ms 101 t = (t.is [101] 2 && t.target false) := (Tm t).symm
theorem F0 (t : Tree) : Ms 119 t = t.target false := rfl
theorem B0 (t : Tree) : Mb 100 t = Cn t.atom := if_pos (.inl rfl)
theorem B3 (t : Tree) : Mb 115 t = Cn t.atom := if_pos (.inr rfl)
theorem Cj (t : Tree) : Mb 110 t = Az t.atom := rfl
theorem Ci (t : Tree) : Mb 109 t = (Az t.atom && decide (0 ≤ B6 t.atom)) := rfl
theorem Ch (t : Tree) : Mb 108 t = Gu t.atom := rfl
theorem Cf (t : Tree) : Mb 69 t = (t.is [101] 2 && t.target false) := rfl
theorem Cg (t : Tree) : Mb 87 t = t.target false := rfl
theorem Sk {p : Nat → Prop} : (∀ i, i < 1 → p i) ↔ p 0 := by
 constructor
 ·intro h; exact h 0 (by omega)
 ·intro h i hi; obtain rfl : i = 0 := by omega
  exact h
theorem O3 {p : Nat → Prop} : (∀ i, i < 2 → p i) ↔ p 0 ∧ p 1 := ⟨fun h => ⟨h 0 (by omega), h 1 (by omega)⟩, fun h i hi => by rcases (show i = 0 ∨ i = 1 by omega) with rfl | rfl <;> simp [h]⟩
theorem Qh {p : Nat → Prop} : (∀ i, i < 3 → p i) ↔ p 0 ∧ p 1 ∧ p 2 := ⟨fun h => ⟨h 0 (by omega), h 1 (by omega), h 2 (by omega)⟩, fun h i hi => by rcases (show i = 0 ∨ i = 1 ∨ i = 2 by omega) with rfl | rfl | rfl <;> simp [h]⟩
theorem Tf {p : Nat → Prop} : (∀ i, i < 4 → p i) ↔ p 0 ∧ p 1 ∧ p 2 ∧ p 3 := ⟨fun h => ⟨h 0 (by omega), h 1 (by omega), h 2 (by omega), h 3 (by omega)⟩, fun h i hi => by rcases (show i = 0 ∨ i = 1 ∨ i = 2 ∨ i = 3 by omega) with rfl | rfl | rfl | rfl <;> simp [h]⟩
theorem Fw {p : Nat → Prop} {m : Nat} : (∀ i, i < m + 1 → 1 ≤ i → p i) ↔ ∀ i, i < m → p (i + 1) := ⟨fun h i hi => h (i + 1) (by omega) (by omega), fun h i hi h1 => by
 obtain ⟨j, rfl⟩ : ∃ j, i = j + 1 := ⟨i - 1, by omega⟩
 exact h j (by omega)⟩
theorem Qu (x : Tree) (k : Nat) {i : Nat} (h : i < k + 1) : Mb ((100 :: List.replicate k 115 : Af).getD i 0).toNat x = Cn x.atom := by
 cases i with
 | zero => exact B0 x
 | succ i =>
  rw [List.getD_cons_succ, List.getD_eq_getElem?_getD, List.getElem?_replicate, if_pos (by omega)]
  exact B3 x
theorem Qv (x : Tree) {i : Nat} (h : 1 ≤ i) : Ms (([114, 42] : Af).getD (min i 2 - 1) 0).toNat x = Cn x.atom := by
 rcases (show i = 1 ∨ min i 2 = 2 by omega) with rfl | h2
 ·exact Ff x
 ·rw [h2]; exact Fg x
theorem Fm (t : Tree) : t.instrS = t.instr := by
 unfold Tree.instrS Tree.instr
 rw [decide_eq_decide]
 generalize t.parts.length = n
 generalize t.head = h
 by_cases h0 : h = [99, 111, 110, 115, 116]
 ·subst h0
  simp only [Er, Fd]
  by_cases hn : n = 3
  ·subst hn; simp [Fw (m := 2), O3, Ff, Fg, Fz, Fy, Fx, F0, B0, B3, Cj, Ci, Ch, Cf, Cg]
  ·simp [hn]
 by_cases h1 : h = [109, 111, 118]
 ·subst h1
  simp only [Er, Fd]
  by_cases hn : n = 3
  ·subst hn; simp [Fw (m := 2), O3, Ff, Fg, Fz, Fy, Fx, F0, B0, B3, Cj, Ci, Ch, Cf, Cg]
  ·simp [hn]
 by_cases h2 : h = [111, 112, 101, 110]
 ·subst h2
  simp only [Er, Fd]
  by_cases hn : n = 3
  ·subst hn; simp [Fw (m := 2), O3, Ff, Fg, Fz, Fy, Fx, F0, B0, B3, Cj, Ci, Ch, Cf, Cg]
  ·simp [hn]
 by_cases h3 : h = [97, 100, 100]
 ·subst h3
  simp only [Er, Fd]
  by_cases hn : n = 4
  ·subst hn; simp [Fw (m := 3), Qh, Ff, Fg, Fz, Fy, Fx, F0, B0, B3, Cj, Ci, Ch, Cf, Cg]
  ·simp [hn]
 by_cases h4 : h = [115, 117, 98]
 ·subst h4
  simp only [Er, Fd]
  by_cases hn : n = 4
  ·subst hn; simp [Fw (m := 3), Qh, Ff, Fg, Fz, Fy, Fx, F0, B0, B3, Cj, Ci, Ch, Cf, Cg]
  ·simp [hn]
 by_cases h5 : h = [109, 117, 108]
 ·subst h5
  simp only [Er, Fd]
  by_cases hn : n = 4
  ·subst hn; simp [Fw (m := 3), Qh, Ff, Fg, Fz, Fy, Fx, F0, B0, B3, Cj, Ci, Ch, Cf, Cg]
  ·simp [hn]
 by_cases h6 : h = [103, 101, 116]
 ·subst h6
  simp only [Er, Fd]
  by_cases hn : n = 4
  ·subst hn; simp [Fw (m := 3), Qh, Ff, Fg, Fz, Fy, Fx, F0, B0, B3, Cj, Ci, Ch, Cf, Cg]
   exact ⟨fun ⟨⟨a, b, c⟩, d⟩ => ⟨a, b, c, d⟩, fun ⟨a, b, c, d⟩ => ⟨⟨a, b, c⟩, d⟩⟩
  ·simp [hn]
 by_cases h7 : h = [108, 97, 98]
 ·subst h7
  simp only [Er, Fd]
  by_cases hn : n = 3
  ·subst hn; simp [Fw (m := 2), O3, Ff, Fg, Fz, Fy, Fx, F0, B0, B3, Cj, Ci, Ch, Cf, Cg]
  ·simp [hn]
 by_cases h8 : h = [122, 101, 114, 111]
 ·subst h8
  simp only [Er, Fd]
  by_cases hn : n = 3
  ·subst hn; simp [Fw (m := 2), O3, Ff, Fg, Fz, Fy, Fx, F0, B0, B3, Cj, Ci, Ch, Cf, Cg]
  ·simp [hn]
 by_cases h9 : h = [112, 97, 99, 107]
 ·subst h9
  simp only [Er, Fd]
  by_cases hn : n = 5
  ·subst hn; simp [Fw (m := 4), Tf, Ff, Fg, Fz, Fy, Fx, F0, B0, B3, Cj, Ci, Ch, Cf, Cg]
  ·simp [hn]
 by_cases h10 : h = [106, 117, 109, 112]
 ·subst h10
  simp only [Er, Fd]
  by_cases hn : n = 2
  ·subst hn; simp [Fw (m := 1), Sk, Ff, Fg, Fz, Fy, Fx, F0, B0, B3, Cj, Ci, Ch, Cf, Cg]
  ·simp [hn]
 by_cases h11 : h = [104, 97, 108, 116]
 ·subst h11
  simp only [Er, Fd]
  by_cases hn : n = 2
  ·subst hn; simp [Fw (m := 1), Sk, Ff, Fg, Fz, Fy, Fx, F0, B0, B3, Cj, Ci, Ch, Cf, Cg]
  ·simp [hn]
 by_cases h12 : h = [110, 101, 119]
 ·subst h12
  simp only [Er, Fd]
  rcases Nat.lt_or_ge n 2 with hn | hn
  ·simp [hn]; omega
  ·obtain ⟨k, rfl⟩ : ∃ k, n = k + 2 := ⟨n - 2, by omega⟩
   have q1 : ∀ i, i < k + 2 → 1 ≤ i → (Ms (([114, 42] : Af).getD (min i 2 - 1) 0).toNat (t.pt i) = true ↔ Cn (t.pt i).atom = true) := fun i _ h => by rw [Qv _ h]
   have q2 : ∀ i, i < k + 1 → (Mb ((100 :: List.replicate k 115 : Af).getD i 0).toNat (t.pt (i + 1)) = true ↔ Cn (t.pt (i + 1)).atom = true) := fun i h => by rw [Qu _ k h]
   simp
   constructor
   ·intro h i hi
    exact (q2 i hi).2 ((q1 (i + 1) (by omega) (by omega)).1 (h (i + 1) (by omega) (by omega)))
   ·intro h i hi h1; obtain ⟨j, rfl⟩ : ∃ j, i = j + 1 := ⟨i - 1, by omega⟩
    exact (q1 (j + 1) hi h1).2 ((q2 j (by omega)).1 (h j (by omega)))
 simp [Er, Fd, *]
theorem Nl (s : Af) (hs : s.length ≤ As) (I : Heap) (L : At) : Fun Tryd.prog 30 [.string (str s)] I L (Cr (.bool (Cn s)) I L) := by
 refine Ag (by simp) ?_; refine Se rfl (Oa rfl (Aa (Se rfl (Om rfl ?_)))); refine Ca rfl (Ez s hs _ _) ?_; rintro _ _ _ _ ⟨rfl, rfl, rfl⟩; refine Om rfl ?_
 apply Br 5 9 rfl
 ·intro g1_3 hk
  try simp only [nb] at g1_3
  refine Ow rfl ?_; refine Bs rfl (.met rfl rfl) rfl (Iy s g1_3 _ _) ?_; rintro _ _ _ _ ⟨rfl, rfl, rfl⟩; refine Bs rfl (.met rfl rfl) rfl (Lt 0 (B6 s) 39 _ _) ?_; rintro _ _ _ _ ⟨rfl, rfl, rfl⟩; refine Ot rfl rfl ?_
  exact Al 3 rfl rfl hk
 ·intro _ hk; refine Aq 3 rfl ?_; refine Of rfl rfl ?_
  exact Al 3 rfl rfl hk
 refine Oa rfl (Aa (Ac (.tmp rfl .nil) ?_)); refine only rfl ?_; refine congrArg Value.bool ?_
 unfold Cn; simp
theorem Ly {I : Heap} {t : Tree} {cs : List Value} (h : Rep I t cs) (L : At) : Fun Tryd.prog 52 [.agg cs.toArray] I L (Cr (.int .i64 (if Cn t.atom = true then B6 t.atom else -1)) I L) := by
 have hal := h.atom_le
 obtain ⟨oa, c, oaf, cf, rfl, hf⟩ := h.at'; refine Ag (by simp) ?_; refine Se rfl ?_; refine D2 rfl rfl .free rfl ?_; intro b1; refine Oa rfl (Aa (Se rfl (Oh rfl ?_))); refine Bl rfl .free rfl ?_; refine Ca rfl (G0 t.atom hal _ _) ?_; rintro _ _ _ _ ⟨rfl, rfl, rfl⟩; refine Om rfl (Oe rfl rfl (Oe rfl rfl (Oa rfl (Oa rfl (Aa (Ai (Se rfl (Om rfl ?_)))))))); refine Ck rfl .free rfl ?_; refine Om rfl ?_
 apply D6 13 17 rfl
 ·intro g2_3 hk
  try simp only [nb] at g2_3
  refine Ow rfl ?_; refine Bs rfl (.met rfl rfl) rfl (Kz 0 _ 39 _ _) ?_; rintro _ _ _ _ ⟨rfl, rfl, rfl⟩; refine Ck rfl (.met rfl rfl) rfl ?_; refine Of rfl rfl ?_
  exact Al 3 rfl rfl hk
 ·intro _ hk; refine Aq 3 rfl ?_; refine Ot rfl rfl ?_
  exact Al 3 rfl rfl hk
 refine Aa ?_; refine Am rfl ?_ ?_
 ·intro c0
  try simp only [nb] at c0
  refine Se rfl (Oa rfl (Aa (Ac (.tmp rfl .nil) ?_))); refine only rfl ?_; refine congrArg (Value.int .i64) ?_; rw [if_neg]
  unfold Cn
  intro e
  simp only [Bool.and_eq_true, decide_eq_true_eq] at e
  rcases c0 with h | h
  ·rw [e.1] at h; cases h
  ·rw [e.1] at h; exact h e.2
 intro c0
 try simp only [nb] at c0
 refine Aj (Se rfl (Om rfl (Oa rfl (Aa (Ac (.tmp rfl .nil) ?_))))); refine only rfl ?_
 have hn : Az t.atom = true := by simpa using c0.1
 have h2 := c0.2
 rw [hn] at h2 ⊢; refine congrArg (Value.int .i64) ?_; rw [if_pos]
 ·rfl
 ·unfold Cn; rw [hn]; simpa using h2
theorem H6 {s : Af} {i : Nat} (hi : i < s.length) (h : Gv s i = false) : Gu s = false := by
 unfold Gu
 refine decide_eq_false fun e => ?_
 rw [e.2 i hi] at h; cases h
theorem N0 (s : Af) (hs : s.length ≤ As) (I : Heap) (L : At) : Fun Tryd.prog 31 [.string (str s)] I L (Cr (.bool (Gu s)) I L) := by
 have hs' := hs
 unfold As at hs'
 refine Ag (by simp) ?_; refine Se rfl (Oa rfl (Aa (Ai (Se rfl (Om rfl ?_))))); refine Aw rfl .free rfl ?_; refine Om rfl (Aa (Av ?_)); refine Cc (X := Nat) (fun i => s.length - i) (fun i => [(0, .string (str s)), (6, .int .i64 (s.length : Nat)), (7, .int .i64 (i : Nat))]) (fun _ => I) (fun _ => L) (fun i => i ≤ s.length ∧ ∀ j, j < i → Gv s j = true) 0 ⟨by omega, fun j hj => by omega⟩ ⟨rfl, rfl, rfl, trivial⟩ (fun _ h => h) ?_; rintro i ⟨hi, hall⟩ ih; refine Se rfl (Oc rfl rfl rfl (Aa (Ai ?_))); refine Am rfl ?_ ?_
 ·intro c0
  try simp only [nb] at c0
  have hi1 : i < s.length := by omega
  refine Aj (Ai (Av (Se rfl (Om rfl (Oa rfl (Aa (Se rfl (Om rfl (Om rfl ?_))))))))); refine A2 rfl rfl rfl (by first | omega | exact Ax (by assumption) (by decide) | (simp; done) | (simp; omega) | decide | (simp at *; omega)) .free rfl ?_; refine Oa rfl (Aa (Se rfl (Om rfl (Oc rfl rfl rfl (Om rfl ?_)))))
  apply Br 15 18 rfl
  ·intro g5_3 hk
   try simp only [nb] at g5_3
   refine Ow rfl ?_; refine A6 rfl rfl rfl (.met rfl rfl) rfl ?_; refine Ot rfl rfl ?_
   exact Al 2 rfl rfl hk
  ·intro _ hk; refine Aq 2 rfl ?_; refine Of rfl rfl ?_
   exact Al 2 rfl rfl hk
  refine Om rfl ?_
  apply D6 19 30 rfl
  ·intro g5_7 hk
   try simp only [nb] at g5_7
   refine Ow rfl ?_; refine A6 rfl rfl rfl (.met rfl rfl) rfl ?_; refine Ow rfl ?_
   apply Br 22 25 rfl
   ·intro g5_10 hk
    try simp only [nb] at g5_10
    refine Ow rfl ?_; refine A6 rfl rfl rfl (.met rfl rfl) rfl ?_; refine A7 rfl rfl (.met rfl rfl) rfl ?_
    exact Al 2 rfl rfl hk
   ·intro _ hk; refine Aq 2 rfl ?_; refine A0 rfl rfl (.met rfl rfl) rfl ?_
    exact Al 2 rfl rfl hk
   refine Ow rfl ?_
   apply Br 26 29 rfl
   ·intro g5_14 hk
    try simp only [nb] at g5_14
    refine Ow rfl ?_; refine A6 rfl rfl rfl (.met rfl rfl) rfl ?_; refine A7 rfl rfl (.met rfl rfl) rfl ?_
    exact Al 2 rfl rfl hk
   ·intro _ hk; refine Aq 2 rfl ?_; refine A0 rfl rfl (.met rfl rfl) rfl ?_
    exact Al 2 rfl rfl hk
   refine Of rfl rfl ?_
   exact Al 6 rfl rfl hk
  ·intro _ hk; refine Aq 10 rfl ?_; refine Ot rfl rfl ?_
   exact Al 10 rfl rfl hk
  refine Ck rfl .free rfl ?_; refine Aa ?_; refine Am rfl ?_ ?_
  ·intro c1
   try simp only [nb] at c1
   refine Se rfl (Oa rfl (Aa (Ac (.tmp rfl .nil) ?_))); refine only rfl ?_; refine congrArg Value.bool (H6 hi1 ?_).symm
   unfold Gv
   simp at c1 ⊢
   omega
  intro c1
  try simp only [nb] at c1
  have hl : Gv s i = true := by
   unfold Gv
   simp at c1 ⊢
   omega
  refine Aj (Ar (Ap rfl ?_)); refine Or rfl rfl rfl ?_; refine Om rfl (Aa ?_); refine B4 (E' := [(0, .string (str s)), (6, .int .i64 (s.length : Nat)), (7, .int .i64 ((i + 1 : Nat)))]) ⟨rfl, rfl, rfl, trivial⟩ (ih (i + 1) ⟨by omega, fun j hj => ?_⟩ (by omega))
  rcases Nat.lt_or_ge j i with h | h
  ·exact hall j h
  ·obtain rfl : j = i := by omega
   exact hl
 intro c0
 try simp only [nb] at c0
 refine C0 rfl ?_; refine Se rfl (Om rfl (Od rfl rfl rfl (Oa rfl (Aa (Ac (.tmp rfl .nil) ?_))))); refine only rfl ?_; refine congrArg Value.bool ?_
 unfold Gu
 rw [← decide_not, decide_eq_decide]
 exact ⟨fun h => ⟨h, fun j hj => hall j (by omega)⟩, fun h => h.1⟩
theorem My (s : Af) (hs : s.length ≤ As) (I : Heap) (L : At) : Fun Tryd.prog 53 [.string (str s)] I L (Cr (.bool (Gu s)) I L) := by
 have hs' := hs
 unfold As at hs'
 refine Ag (by simp) ?_; refine Se rfl (Oa rfl (Aa (Ai (Se rfl (Oa rfl (Aa (Av ?_))))))); refine Cc (X := Nat) (fun i => s.length - i) (fun i => [(0, .string (str s)), (3, .int .i64 (i : Nat))]) (fun _ => I) (fun _ => L) (fun i => i ≤ s.length ∧ ∀ j, j < i → Gv s j = true) 0 ⟨by omega, fun j hj => by omega⟩ ⟨rfl, rfl, trivial⟩ (fun _ h => h) ?_; rintro i ⟨hi, hall⟩ ih; refine Ai (Se rfl (Om rfl (Om rfl ?_))); refine Aw rfl .free rfl ?_; refine Oc rfl rfl rfl (Aa ?_); refine Am rfl ?_ ?_
 ·intro c0
  try simp only [nb] at c0
  have hi1 : i < s.length := by omega
  refine Aj (Ai (Av (Se rfl (Om rfl (Om rfl ?_))))); refine A2 rfl rfl rfl (by first | omega | exact Ax (by assumption) (by decide) | (simp; done) | (simp; omega) | decide | (simp at *; omega)) .free rfl ?_; refine Oc rfl rfl rfl (Om rfl ?_)
  apply Br 14 19 rfl
  ·intro g4_5 hk
   try simp only [nb] at g4_5
   refine Ow rfl (Ow rfl ?_); refine A2 rfl rfl rfl (by first | omega | exact Ax (by assumption) (by decide) | (simp; done) | (simp; omega) | decide | (simp at *; omega)) (.met rfl rfl) rfl ?_; refine A6 rfl rfl rfl (.met rfl rfl) rfl ?_; refine Ot rfl rfl ?_
   exact Al 4 rfl rfl hk
  ·intro _ hk; refine Aq 4 rfl ?_; refine Of rfl rfl ?_
   exact Al 4 rfl rfl hk
  refine Om rfl ?_
  apply D6 20 35 rfl
  ·intro g4_11 hk
   try simp only [nb] at g4_11
   refine Ow rfl ?_; refine A6 rfl rfl rfl (.met rfl rfl) rfl ?_; refine Ow rfl ?_
   apply Br 23 28 rfl
   ·intro g4_14 hk
    try simp only [nb] at g4_14
    refine Ow rfl (Ow rfl ?_); refine A2 rfl rfl rfl (by first | omega | exact Ax (by assumption) (by decide) | (simp; done) | (simp; omega) | decide | (simp at *; omega)) (.met rfl rfl) rfl ?_; refine A6 rfl rfl rfl (.met rfl rfl) rfl ?_; refine A7 rfl rfl (.met rfl rfl) rfl ?_
    exact Al 4 rfl rfl hk
   ·intro _ hk; refine Aq 4 rfl ?_; refine A0 rfl rfl (.met rfl rfl) rfl ?_
    exact Al 4 rfl rfl hk
   refine Ow rfl ?_
   apply Br 29 34 rfl
   ·intro g4_20 hk
    try simp only [nb] at g4_20
    refine Ow rfl (Ow rfl ?_); refine A2 rfl rfl rfl (by first | omega | exact Ax (by assumption) (by decide) | (simp; done) | (simp; omega) | decide | (simp at *; omega)) (.met rfl rfl) rfl ?_; refine A6 rfl rfl rfl (.met rfl rfl) rfl ?_; refine A7 rfl rfl (.met rfl rfl) rfl ?_
    exact Al 4 rfl rfl hk
   ·intro _ hk; refine Aq 4 rfl ?_; refine A0 rfl rfl (.met rfl rfl) rfl ?_
    exact Al 4 rfl rfl hk
   refine Of rfl rfl ?_
   exact Al 6 rfl rfl hk
  ·intro _ hk; refine Aq 14 rfl ?_; refine Ot rfl rfl ?_
   exact Al 14 rfl rfl hk
  refine Ck rfl .free rfl ?_; refine Aa ?_; refine Am rfl ?_ ?_
  ·intro c1
   try simp only [nb] at c1
   refine Se rfl (Oa rfl (Aa (Ac (.tmp rfl .nil) ?_))); refine only rfl ?_; refine congrArg Value.bool (H6 hi1 ?_).symm
   unfold Gv
   simp at c1 ⊢
   omega
  intro c1
  try simp only [nb] at c1
  have hl : Gv s i = true := by
   unfold Gv
   simp at c1 ⊢
   omega
  refine Aj (Ar (Ap rfl (Om rfl ?_))); refine Or rfl rfl rfl ?_; refine Oa rfl (Aa ?_); refine B4 (E' := [(0, .string (str s)), (3, .int .i64 ((i + 1 : Nat)))]) ⟨rfl, rfl, trivial⟩ (ih (i + 1) ⟨by omega, fun j hj => ?_⟩ (by omega))
  rcases Nat.lt_or_ge j i with h | h
  ·exact hall j h
  ·obtain rfl : j = i := by omega
   exact hl
 intro c0
 try simp only [nb] at c0
 refine C0 rfl ?_; refine Se rfl (Om rfl (Od rfl rfl rfl (Oa rfl (Aa (Ac (.tmp rfl .nil) ?_))))); refine only rfl ?_; refine congrArg Value.bool ?_
 unfold Gu
 rw [← decide_not, decide_eq_decide]
 exact ⟨fun h => ⟨h, fun j hj => hall j (by omega)⟩, fun h => h.1⟩
structure Tail (I : Heap) (t : Tree) (ot : Option Addr) : Prop where
 part : ∀ j, j + 1 < t.parts.length → ∃ oa c, Rep I (t.pt (j + 1)) [.string (str (t.pt (j + 1)).atom), .slice oa (t.pt (j + 1)).parts.length c] ∧ Still I ((K8 ot).add (j * 2)) [.string (str (t.pt (j + 1)).atom), .slice oa (t.pt (j + 1)).parts.length c]
 nil : ot = none → t.parts.length - 1 = 0
theorem Tail.mono {I I' : Heap} (hle : HLe I I') {t : Tree} {ot : Option Addr} (h : Tail I t ot) : Tail I' t ot :=
 ⟨fun j hj => by obtain ⟨oa, c, h1, h2⟩ := h.part j hj; exact ⟨oa, c, h1.mono hle, h2.mono hle⟩, h.nil⟩
theorem FormAt.tail {I : Heap} {t : Tree} {oa : Option Addr} {c : Nat} {oaf : Nat → Option Addr} {cf : Nat → Nat} (hf : FormAt I t oa c oaf cf) : Tail I t (if c = 1 then oa else oa.map (fun x => x.add (1 * 2))) := by
 have hcap := hf.cap
 constructor
 ·intro j hj; obtain ⟨h1, h2⟩ := hf.part (j + 1) hj; refine ⟨_, _, h1, ?_⟩; rw [if_neg (by omega)]
  cases oa with
  | none => have := hf.nil rfl; omega
  | some x =>
   have e : (K8 (Option.map (fun x => x.add (1 * 2)) (some x))).add (j * 2) = (K8 (some x)).add ((j + 1) * 2) := by
    show (x.add (1 * 2)).add (j * 2) = x.add ((j + 1) * 2)
    cases j with
    | zero => rfl
    | succ j =>
     unfold Addr.add
     rw [if_neg (by omega), if_neg (by omega), if_neg (by omega)]
     simp only [Addr.mk.injEq, and_true, true_and]
     omega
   rw [e]; exact h2
 ·intro h
  split at h
  ·omega
  ·cases oa with
   | none => have := hf.nil rfl; omega
   | some x => cases h
theorem Nq {P : Program} {f : FuncId} {vs : List Value} {I : Heap} {L : At} (h : False) : Fun P f vs I L (Cr (.bool false) I L) := h.elim
def R7 (n : Nat) : Prop := ∀ {I : Heap} {t : Tree} {cs : List Value} (b : Bool) (_ : SizeOf.sizeOf t < n) (_ : Rep I t cs) (L : At), Fun Tryd.prog 33 [.agg cs.toArray, .bool b, .bool false] I L (Cr (.bool (t.target b)) I L)
def bx (b : Nat) (v : Bool) : Nat × Obj := (b, .cells [.bool v].toArray 4 (0, 0))
theorem Kx {n : Nat} (ih : R7 n) {I : Heap} {t : Tree} {cs : List Value} (b : Bool) (hlt : SizeOf.sizeOf t < n) (h : Rep I t cs) (bh bo : Nat) (L : At) :
  Fun Tryd.prog 50 [.agg cs.toArray, .pointer (some ⟨bh, 0, none⟩), .pointer (some ⟨bo, 0, none⟩)] I (bx bo false :: bx bh b :: L) (Cr (.bool (!t.target b)) I (bx bo false :: bx bh b :: L)) := by
 obtain ⟨oa, c, vs, rfl, -⟩ := h.open
 unfold bx
 refine Ag (by simp) ?_; refine Se rfl ?_; refine D2 rfl rfl .free rfl ?_; intro b3; refine Oa rfl (Aa (Se rfl ?_)); refine Dg rfl .free rfl ?_; refine Sx rfl .free rfl ?_; refine Sx rfl .free rfl ?_; refine Ca rfl (ih b hlt h _) ?_; rintro _ _ _ _ ⟨rfl, rfl, rfl⟩; refine Ck rfl .free rfl ?_; refine Oa rfl (Aa (Ac (.tmp rfl .nil) ?_)); refine only rfl ?_
 rfl
theorem Gz {n : Nat} (ih : R7 n) {I : Heap} {t : Tree} {ot : Option Addr} {c : Nat} (b : Bool) (hlt : SizeOf.sizeOf t < n + 1) (hf : Tail I t ot) (hc : t.parts.length ≤ As) (bh bo : Nat) (L : At) :
  Fun Tryd.prog 67 [.slice ot (t.parts.length - 1) c, .func (.func 50) #[] #[.pointer (some ⟨bh, 0, none⟩), .pointer (some ⟨bo, 0, none⟩)]] I (bx bo false :: bx bh b :: L)
   (fun v I' L' => ∃ r : Int, v = .int .i64 r ∧ (0 ≤ r ↔ ∃ j, 1 ≤ j ∧ j < t.parts.length ∧ (t.pt j).target b = false) ∧ I = I' ∧ L' = bx bo false :: bx bh b :: L) := by
 have hn := hf.nil
 unfold As at hc
 refine Ag (by simp) ?_; refine Se rfl (Oa rfl (Aa (Ai (Se rfl (Om rfl (On rfl (Om rfl (Aa (Av ?_))))))))); refine Cc (X := Nat) (fun i => t.parts.length - 1 - i) (fun i => [(0, .slice ot (t.parts.length - 1) c), (1, .func (.func 50) #[] #[.pointer (some ⟨bh, 0, none⟩), .pointer (some ⟨bo, 0, none⟩)]), (7, .int .i64 ((t.parts.length - 1 : Nat))), (8, .int .i64 (i : Nat))]) (fun _ => I) (fun _ => bx bo false :: bx bh b :: L) (fun i => i ≤ t.parts.length - 1 ∧ ∀ j, j < i → (t.pt (j + 1)).target b = true) 0 ⟨by omega, fun j hj => by omega⟩ ⟨rfl, rfl, rfl, rfl, trivial⟩ (fun _ h => h) ?_
 rintro i ⟨hi, hall⟩ ih2; refine Se rfl (Oc rfl rfl rfl (Aa (Ai ?_))); refine Am rfl ?_ ?_
 ·intro c0
  try simp only [nb] at c0
  have hi1 : i < t.parts.length - 1 := by omega
  obtain ⟨o1, k1, hr, hst⟩ := hf.part i (by omega); refine Aj (Ai (Av (Se rfl (Om rfl (Oa rfl (Aa (Se rfl ?_)))))))
  iterate 3 refine Om rfl ?_
  first | refine E1 rfl rfl _ rfl .free rfl ?_ | refine E2 rfl rfl _ rfl .free rfl ?_
  refine L9 rfl .free rfl ?_; refine Qt rfl rfl .free rfl (Kx ih b (by have := t.pt_lt (i + 1) (by omega); omega) hr bh bo _) ?_; rintro _ _ _ _ ⟨rfl, rfl, rfl⟩; refine Aa ?_; refine Am rfl ?_ ?_
  ·intro c1
   try simp only [nb] at c1
   refine Se rfl (Om rfl (Oa rfl (Aa (Ac (.tmp rfl .nil) ?_))))
   exact ⟨I, _, .refl _, fun _ h => h, _, rfl, ⟨fun _ => ⟨i + 1, by omega, by omega, by simpa using c1⟩, fun _ => by omega⟩, rfl, rfl⟩
  intro c1
  try simp only [nb] at c1
  refine Aj (Ar (Ap rfl ?_)); refine Or rfl rfl rfl ?_; refine Om rfl (Aa ?_); refine B4 (E' := [(0, .slice ot (t.parts.length - 1) c), (1, .func (.func 50) #[] #[.pointer (some ⟨bh, 0, none⟩), .pointer (some ⟨bo, 0, none⟩)]), (7, .int .i64 ((t.parts.length - 1 : Nat))), (8, .int .i64 ((i + 1 : Nat)))]) ⟨rfl, rfl, rfl, rfl, trivial⟩ (ih2 (i + 1) ⟨by omega, fun j hj => ?_⟩ (by omega))
  rcases Nat.lt_or_ge j i with h | h
  ·exact hall j h
  ·obtain rfl : j = i := by omega
   simpa using c1
 intro c0
 try simp only [nb] at c0
 refine C0 rfl ?_; refine Se rfl (Oa rfl (Aa (Ac (.tmp rfl .nil) ?_))); refine ⟨I, _, .refl _, fun _ h => h, _, rfl, ⟨fun h => absurd h (by decide), ?_⟩, rfl, rfl⟩; rintro ⟨j, h1, h2, h3⟩
 have := hall (j - 1) (by omega)
 rw [show j - 1 + 1 = j by omega, h3] at this; cases this
theorem D0 {n : Nat} (ih : R7 n) {I : Heap} {t : Tree} {ot : Option Addr} {c : Nat} (b : Bool) (hlt : SizeOf.sizeOf t < n + 1) (hf : Tail I t ot) (hc : t.parts.length ≤ As) (bh bo : Nat) (L : At) :
  Fun Tryd.prog 49 [.slice ot (t.parts.length - 1) c, .func (.func 50) #[] #[.pointer (some ⟨bh, 0, none⟩), .pointer (some ⟨bo, 0, none⟩)]] I (bx bo false :: bx bh b :: L)
   (fun v I' L' => ∃ r : Bool, v = .bool r ∧ (r = true ↔ ∃ j, 1 ≤ j ∧ j < t.parts.length ∧ (t.pt j).target b = false) ∧ I = I' ∧ L' = bx bo false :: bx bh b :: L) := by
 refine Ag (by simp) ?_; refine Se rfl (Oa rfl (Aa (Se rfl (Om rfl (Om rfl ?_))))); refine Ca rfl (Gz ih b hlt hf hc bh bo _) ?_; rintro _ _ _ _ ⟨r, rfl, hr, rfl, rfl⟩; refine Oc rfl rfl rfl (Oa rfl (Aa (Ac (.tmp rfl .nil) ?_)))
 exact ⟨I, _, .refl _, fun _ h => h, _, rfl, by simpa using hr, rfl, rfl⟩
theorem P6 {n : Nat} (ih : R7 n) : R7 (n + 1) := by
 intro I t cs b hlt h L; obtain ⟨oa, c, oaf, cf, rfl, hf⟩ := h.at'
 have hn := hf.nil
 have hcap := hf.cap
 have hlen := hf.len
 refine Ag (by simp) ?_; refine Se rfl ?_; refine D2 rfl rfl .free rfl ?_; intro b3; refine D2 rfl rfl .free rfl ?_; intro b4; refine D2 rfl rfl .free rfl ?_; intro b5; refine Oa rfl (Aa (Ai (Se rfl ?_))); refine Dg rfl .free rfl ?_; refine Ca rfl (D8 h _) ?_; rintro _ _ _ _ ⟨rfl, rfl, rfl⟩; refine Aa ?_; refine Am rfl ?_ ?_
 ·intro c0
  try simp only [nb] at c0
  refine Se rfl (Oh rfl ?_); refine Bl rfl .free rfl ?_; refine Od rfl rfl rfl (Om rfl ?_)
  apply D6 12 19 rfl
  ·intro g2_4 hk
   try simp only [nb] at g2_4
   refine Bl rfl (.met rfl rfl) rfl ?_; refine Ow rfl ?_
   apply Br 14 18 rfl
   ·intro g2_6 hk
    try simp only [nb] at g2_6
    refine Ba rfl (.met rfl rfl) rfl ?_; refine Bl rfl (.met rfl rfl) rfl ?_; refine Ef rfl rfl rfl (.met rfl rfl) rfl ?_; refine A7 rfl rfl (.met rfl rfl) rfl ?_
    exact Al 3 rfl rfl hk
   ·intro _ hk; refine Aq 3 rfl ?_; refine A0 rfl rfl (.met rfl rfl) rfl ?_
    exact Al 3 rfl rfl hk
   refine Of rfl rfl ?_
   exact Al 3 rfl rfl hk
  ·intro _ hk; refine Aq 6 rfl ?_; refine Ot rfl rfl ?_
   exact Al 6 rfl rfl hk
  refine Om rfl ?_
  apply D6 20 27 rfl
  ·intro g2_12 hk
   try simp only [nb] at g2_12
   refine Bl rfl (.met rfl rfl) rfl ?_; refine Ow rfl ?_
   apply Br 22 26 rfl
   ·intro g2_14 hk
    try simp only [nb] at g2_14
    refine Ba rfl (.met rfl rfl) rfl ?_; refine Bl rfl (.met rfl rfl) rfl ?_; refine Bs rfl (.met rfl rfl) rfl (Nq (f := 48) (by simp_all)) ?_; rintro _ _ _ _ ⟨rfl, rfl, rfl⟩; refine A7 rfl rfl (.met rfl rfl) rfl ?_
    exact Al 3 rfl rfl hk
   ·intro _ hk; refine Aq 3 rfl ?_; refine A0 rfl rfl (.met rfl rfl) rfl ?_
    exact Al 3 rfl rfl hk
   refine Of rfl rfl ?_
   exact Al 3 rfl rfl hk
  ·intro _ hk; refine Aq 6 rfl ?_; refine Ot rfl rfl ?_
   exact Al 6 rfl rfl hk
  refine Oa rfl (Aa (Ac (.tmp rfl .nil) ?_)); refine only rfl ?_; refine congrArg Value.bool ?_; rw [Mm (by simpa using c0)]
  simp
 intro c0
 try simp only [nb] at c0
 have hne : t.parts ≠ [] := by simpa using c0
 have hpos : 0 < t.parts.length := List.length_pos_iff.2 hne
 refine Aj (Ai (Se rfl ?_)); refine Dg rfl .free rfl ?_; refine Ca rfl (Ea h _) ?_; rintro _ _ _ _ ⟨rfl, rfl, rfl⟩; refine Aa (Av (Se rfl (Od rfl rfl rfl (Oa rfl (Aa ?_))))); refine Am rfl ?_ ?_
 ·intro c1
  try simp only [nb] at c1
  refine Ai ?_; refine Fu 13 rfl rfl ?_; refine Da 0 rfl (Bb rfl) ?_; refine Dt 1 [13] rfl (Mq rfl) ?_; refine Da 2 rfl (Cq rfl) ?_; refine Da 3 rfl (Kk rfl rfl rfl) ?_; refine Da 4 rfl (Ay rfl) ?_
  apply Sl 36 43 rfl
  ·intro g5_5 hk
   try simp only [nb] at g5_5
   have h2 : t.parts.length = 2 := by have := g5_5; omega
   refine Dm 5 rfl (Bb rfl) ?_; refine Kt 6 [13] rfl (by kernel_rfl) rfl Cm (Mq rfl) (.met rfl rfl) rfl ?_
   first | refine Dm 7 rfl (Rh rfl rfl 1 rfl) ?_ | refine Dm 7 rfl (Ri rfl rfl 1 rfl) ?_
   refine Kt 8 [13] rfl (by kernel_rfl) rfl Cm (Rj rfl) (.met rfl rfl) rfl ?_; refine Kt 9 [13] rfl (by kernel_rfl) rfl Cm (Mq rfl) (.met rfl rfl) rfl ?_; refine O6 10 rfl (by kernel_rfl) rfl rfl (.met rfl rfl) rfl (ih true (by have := t.pt_lt 1 (by omega); omega) (hf.rp 1 (by omega)) _) ?_; rintro _ _ _ _ ⟨rfl, rfl, rfl⟩; refine Hx ?_; refine Da 11 rfl (If rfl rfl) ?_
   exact Ra 6 rfl rfl hk
  ·intro _ hk; refine Ds 5 rfl rfl rfl ?_; refine Ds 6 rfl rfl rfl ?_; refine Ds 7 rfl rfl rfl ?_; refine Ds 8 rfl rfl rfl ?_; refine Ds 9 rfl rfl rfl ?_; refine Ds 10 rfl rfl rfl ?_; refine Da 11 rfl (Hj rfl rfl) ?_
   exact Ra 6 rfl rfl hk
  refine Da 12 rfl (Bd rfl) ?_; refine Dk (by kernel_rfl) ?_; refine Ac (.tmp rfl .nil) ?_; refine only rfl ?_; refine congrArg Value.bool ?_; rw [P7 hne (by simpa using c1)]
  exact congrArg (fun z => z && (t.pt 1).target true) (decide_eq_decide.2 (by omega))
 intro c1
 try simp only [nb] at c1
 refine Ai (Se rfl (Od rfl rfl rfl (Oa rfl (Aa ?_)))); refine Am rfl ?_ ?_
 ·intro c2
  try simp only [nb] at c2
  refine Aj ?_
  first | refine St rfl (by first | assumption | omega) ?_ | refine Bk (by simp [A8, Au, *]) ?_
  refine Se rfl (Oh rfl ?_); refine Bl rfl .free rfl ?_; refine D9 rfl rfl rfl 1 _ rfl rfl (by first | omega | exact Ax (by assumption) (by decide) | (simp; done) | (simp; omega) | decide | (simp at *; omega)) .free rfl ?_
  have htl := hf.tail
  generalize (if c = 1 then oa else oa.map (fun x => x.add (1 * 2))) = ot at htl ⊢
  refine I7 rfl rfl .free rfl ?_; refine Ca rfl (D0 ih b hlt htl hlen b4 b5 _) ?_; rintro _ _ _ _ ⟨r, rfl, hr, rfl, rfl⟩; refine Ck rfl .free rfl ?_; refine Oa rfl (Aa (Ac (.tmp rfl .nil) ?_)); refine only rfl ?_; refine congrArg Value.bool ?_; rw [Bool.eq_iff_iff, Lh hne (by simp_all)]
  simp only [Bool.not_eq_true', ← Bool.not_eq_true]
  rw [hr]
  constructor
  ·intro hq j h1 h2
   cases hz : (t.pt j).target b with
   | true => rfl
   | false => exact absurd ⟨j, h1, h2, hz⟩ hq
  ·rintro hq ⟨j, h1, h2, h3⟩; rw [hq j h1 h2] at h3; cases h3
 intro c2
 try simp only [nb] at c2
 refine Ap rfl (Od rfl rfl rfl (Oa rfl (Aa ?_))); refine Am rfl ?_ ?_
 ·intro c3
  try simp only [nb] at c3
  refine Se rfl (Oh rfl ?_); refine Bl rfl .free rfl ?_; refine D9 rfl rfl rfl 1 _ rfl rfl (by first | omega | exact Ax (by assumption) (by decide) | (simp; done) | (simp; omega) | decide | (simp at *; omega)) .free rfl ?_
  have htl := hf.tail
  generalize (if c = 1 then oa else oa.map (fun x => x.add (1 * 2))) = ot at htl ⊢
  refine I7 rfl rfl .free rfl ?_; refine Ca rfl (D0 ih b hlt htl hlen b4 b5 _) ?_; rintro _ _ _ _ ⟨r, rfl, hr, rfl, rfl⟩; refine Ck rfl .free rfl ?_; refine Oa rfl (Aa (Ac (.tmp rfl .nil) ?_)); refine only rfl ?_; refine congrArg Value.bool ?_; rw [Bool.eq_iff_iff, Lh hne (by simp_all)]
  simp only [Bool.not_eq_true', ← Bool.not_eq_true]
  rw [hr]
  constructor
  ·intro hq j h1 h2
   cases hz : (t.pt j).target b with
   | true => rfl
   | false => exact absurd ⟨j, h1, h2, hz⟩ hq
  ·rintro hq ⟨j, h1, h2, h3⟩; rw [hq j h1 h2] at h3; cases h3
 intro c3
 try simp only [nb] at c3
 refine Aj (Ar (Se rfl (Oa rfl (Aa (Ac (.tmp rfl .nil) ?_))))); refine only rfl ?_; refine congrArg Value.bool ?_; rw [P8 hne (by simp_all) (by simp_all) (by simp_all)]
theorem Q2 (n : Nat) : R7 n := by
 induction n with
 | zero => intro I t cs b h; omega
 | succ n ih => exact @P6 n ih
theorem Fv {I : Heap} {t : Tree} {cs : List Value} (h : Rep I t cs) (b : Bool) (L : At) : Fun Tryd.prog 33 [.agg cs.toArray, .bool b, .bool false] I L (Cr (.bool (t.target b)) I L) := @Q2 _ I t cs b (Nat.lt_succ_self _) h L
theorem J6 : ∀ (n : Nat) {I : Heap} {t : Tree} {cs : List Value} (b : Bool) (_ : SizeOf.sizeOf t < n) (_ : Rep I t cs) (_ : t.good = true) (L : At), Fun Tryd.prog 54 [.agg cs.toArray, .bool b, .bool false] I L (Cr (.bool (t.target b)) I L) := by
 intro n
 induction n with
 | zero => intro I t cs b h; omega
 | succ n ihn =>
  intro I t cs b hlt h hg L; obtain ⟨oa, c, oaf, cf, rfl, hf⟩ := h.at'
  have hn := hf.nil
  have hlen := hf.len
  unfold As at hlen
  refine Ag (by simp) ?_; refine Se rfl ?_; refine D2 rfl rfl .free rfl ?_; intro b3; refine Oa rfl (Aa (Ai (Se rfl (Oh rfl ?_)))); refine Bl rfl .free rfl ?_; refine Od rfl rfl rfl (Aa ?_); refine Am rfl ?_ ?_
  ·intro c0
   try simp only [nb] at c0
   refine Se rfl (Oh rfl ?_); refine Bl rfl .free rfl ?_; refine Od rfl rfl rfl (Om rfl ?_)
   apply D6 15 22 rfl
   ·intro g2_4 hk
    try simp only [nb] at g2_4
    refine Ow rfl (Ow rfl ?_)
    apply Br 17 21 rfl
    ·intro g2_6 hk
     try simp only [nb] at g2_6
     refine Ba rfl (.met rfl rfl) rfl ?_; refine Bl rfl (.met rfl rfl) rfl ?_; refine Ef rfl rfl rfl (.met rfl rfl) rfl ?_; refine A7 rfl rfl (.met rfl rfl) rfl ?_
     exact Al 3 rfl rfl hk
    ·intro _ hk; refine Aq 3 rfl ?_; refine A0 rfl rfl (.met rfl rfl) rfl ?_
     exact Al 3 rfl rfl hk
    refine Of rfl rfl ?_
    exact Al 3 rfl rfl hk
   ·intro _ hk; refine Aq 6 rfl ?_; refine Ot rfl rfl ?_
    exact Al 6 rfl rfl hk
   refine Om rfl ?_
   apply D6 23 30 rfl
   ·intro g2_12 hk
    try simp only [nb] at g2_12
    refine Ow rfl (Ow rfl ?_)
    apply Br 25 29 rfl
    ·intro g2_14 hk
     try simp only [nb] at g2_14
     refine Ba rfl (.met rfl rfl) rfl ?_; refine Bl rfl (.met rfl rfl) rfl ?_; refine Bs rfl (.met rfl rfl) rfl (Nq (f := 68) (by simp_all)) ?_; rintro _ _ _ _ ⟨rfl, rfl, rfl⟩; refine A7 rfl rfl (.met rfl rfl) rfl ?_
     exact Al 3 rfl rfl hk
    ·intro _ hk; refine Aq 3 rfl ?_; refine A0 rfl rfl (.met rfl rfl) rfl ?_
     exact Al 3 rfl rfl hk
    refine Of rfl rfl ?_
    exact Al 3 rfl rfl hk
   ·intro _ hk; refine Aq 6 rfl ?_; refine Ot rfl rfl ?_
    exact Al 6 rfl rfl hk
   refine Oa rfl (Aa (Ac (.tmp rfl .nil) ?_)); refine only rfl ?_; refine congrArg Value.bool ?_; rw [Mm (Lz hg (by simpa using c0))]
   simp
  intro c0
  try simp only [nb] at c0
  have hne := (Nm hg (by simpa using c0)).1
  have hpos := (Nm hg (by simpa using c0)).2
  have hhd := Gj hpos
  refine Aj (Se rfl (Oh rfl ?_)); refine Bl rfl .free rfl ?_
  first | refine E1 rfl rfl 0 rfl .free rfl ?_ | refine E2 rfl rfl 0 rfl .free rfl ?_
  refine B9 rfl .free rfl ?_; refine Kc rfl .free rfl ?_; refine Oa rfl (Aa (Ai (Se rfl (Om rfl (Od rfl rfl rfl (Aa ?_)))))); refine Am rfl ?_ ?_
  ·intro c1
   try simp only [nb] at c1
   refine Se rfl (Oh rfl ?_); refine Bl rfl .free rfl ?_; refine On rfl (Oc rfl rfl rfl (Om rfl ?_))
   apply Br 42 49 rfl
   ·intro g5_5 hk
    try simp only [nb] at g5_5
    have h2 : t.parts.length = 2 := by have := g5_5; omega
    refine Ba rfl (.met rfl rfl) rfl ?_; refine Bl rfl (.met rfl rfl) rfl ?_
    first | refine E1 rfl rfl 1 rfl (.met rfl rfl) rfl ?_ | refine E2 rfl rfl 1 rfl (.met rfl rfl) rfl ?_
    refine L9 rfl (.met rfl rfl) rfl ?_; refine Ow rfl ?_; refine Bs rfl (.met rfl rfl) rfl (ihn true (by have := t.pt_lt 1 (by omega); omega) (hf.rp 1 (by omega)) (Tree.pt_good hg 1 (by omega)) _) ?_; rintro _ _ _ _ ⟨rfl, rfl, rfl⟩; refine Ot rfl rfl ?_
    exact Al 6 rfl rfl hk
   ·intro _ hk; refine Aq 6 rfl ?_; refine Of rfl rfl ?_
    exact Al 6 rfl rfl hk
   refine Oa rfl (Aa (Ac (.tmp rfl .nil) ?_)); refine only rfl ?_; refine congrArg Value.bool ?_; rw [P7 hne (hhd.trans (by simpa using c1))]
   exact congrArg (fun z => z && (t.pt 1).target true) (decide_eq_decide.2 (by omega))
  intro c1
  try simp only [nb] at c1
  refine Aj (Ai (Se rfl (Om rfl (Od rfl rfl rfl (Om rfl ?_)))))
  apply Br 52 55 rfl
  ·intro g6_3 hk
   try simp only [nb] at g6_3
   refine Ow rfl ?_; refine Ef rfl rfl rfl (.met rfl rfl) rfl ?_; refine Ot rfl rfl ?_
   exact Al 2 rfl rfl hk
  ·intro _ hk; refine Aq 2 rfl ?_; refine Of rfl rfl ?_
   exact Al 2 rfl rfl hk
  refine Aa ?_; refine Am rfl ?_ ?_
  ·intro c2
   try simp only [nb] at c2
   refine Se rfl (Oa rfl (Aa (Ac (.tmp rfl .nil) ?_))); refine only rfl ?_; refine congrArg Value.bool ?_; rw [P8 hne (by rw [hhd]; simpa using c1) (by rw [hhd]; simp_all) (by rw [hhd]; simp_all)]
  intro c2
  try simp only [nb] at c2
  refine Aj (Ai (Se rfl (Oa rfl (Aa (Av ?_))))); refine Cc (X := Nat) (fun i => t.parts.length - i) (fun i => [(1, .bool b), (2, .bool false), (3, .pointer (some ⟨b3, 0, none⟩)), (8, .int .i64 (i : Nat))]) (fun _ => I) (fun _ => (b3, .cells [.string (str t.atom), .slice oa t.parts.length c].toArray 42 (0, 0)) :: L) (fun i => 1 ≤ i ∧ i ≤ t.parts.length ∧ ∀ j, 1 ≤ j → j < i → (t.pt j).target b = true) 1 ⟨by omega, by omega, fun j h1 h2 => by omega⟩ ⟨rfl, rfl, rfl, rfl, trivial⟩ (fun _ h => h) ?_; rintro i ⟨hi0, hi, hall⟩ ih2; refine Ai (Se rfl (Om rfl (Oh rfl ?_))); refine Bl rfl .free rfl ?_
  refine On rfl (Oc rfl rfl rfl (Aa ?_)); refine Am rfl ?_ ?_
  ·intro c3
   try simp only [nb] at c3
   have hi1 : i < t.parts.length := by omega
   refine Aj (Ai (Av (Se rfl (Oh rfl ?_)))); refine Bl rfl .free rfl ?_; refine Om rfl ?_
   first | refine E1 rfl rfl _ rfl .free rfl ?_ | refine E2 rfl rfl _ rfl .free rfl ?_
   refine L9 rfl .free rfl ?_; refine Om rfl (Om rfl ?_); refine Ca rfl (ihn b (by have := t.pt_lt i (by omega); omega) (hf.rp i (by omega)) (Tree.pt_good hg i (by omega)) _) ?_; rintro _ _ _ _ ⟨rfl, rfl, rfl⟩; refine Ck rfl .free rfl ?_; refine Aa ?_; refine Am rfl ?_ ?_
   ·intro c4
    try simp only [nb] at c4
    refine Se rfl (Oa rfl (Aa (Ac (.tmp rfl .nil) ?_))); refine only rfl ?_; refine congrArg Value.bool ?_
    cases hz : t.target b with
    | false => rfl
    | true =>
     have := (Lh hne (by rw [hhd]; simp_all) b).1 hz i hi0 hi1
     simp_all
   intro c4
   try simp only [nb] at c4
   refine Aj (Ar (Ap rfl (Om rfl ?_))); refine Or rfl rfl rfl ?_; refine Oa rfl (Aa ?_); refine B4 (E' := [(1, .bool b), (2, .bool false), (3, .pointer (some ⟨b3, 0, none⟩)), (8, .int .i64 ((i + 1 : Nat)))]) ⟨rfl, rfl, rfl, rfl, trivial⟩ (ih2 (i + 1) ⟨by omega, by omega, fun j h1 h2 => ?_⟩ (by omega))
   rcases Nat.lt_or_ge j i with h | h
   ·exact hall j h1 h
   ·obtain rfl : j = i := by omega
    simpa using c4
  intro c3
  try simp only [nb] at c3
  refine C0 rfl ?_; refine Se rfl (Oa rfl (Aa (Ac (.tmp rfl .nil) ?_))); refine only rfl ?_; refine congrArg Value.bool ?_
  exact ((Lh hne (by rw [hhd]; simp_all) b).2 fun j h1 h2 => hall j h1 (by omega)).symm
section
variable {P : Program} {f : FuncId} {n : Nat} {I₀ : Heap} {Q : A5} {k : List Item} {E : D3} {I : Heap} {L : At} {ops : Array Oper} {d : Nat} {ty : TypeId} {pos : String} {af : Array Edge} {g : Option (Nat × Bool)} {l : List Oper}
theorem Rw {tys : Array TypeId} {x y : Operand} {a b : Int} (hx : Au E x = some (.int .i64 a)) (hy : Au E y = some (.int .i64 b)) (hg : Wants ops E g) (hdn : Nat.blt d n = true)
  (h : Ah P f n I₀ Q ops l k ((d, .int .i64 (if b > a then b else a)) :: E) I L) : Ah P f n I₀ Q ops (⟨some d, .call ⟨.builtin .max, #[x, y], tys⟩, ty, pos, af, g⟩ :: l) k E I L := Bi (fun ac w he _ => by
 simp only [execOp, resolve, List.map_toArray, List.map, he.eval hx, he.eval hy]
 simp only [pure_bind, invoke, builtin]
 refine Ab (a := _) (w' := w) ?_ |>.trans rfl
 exact run_max_int2 ..) hg hdn h
theorem Q8 {S : World → Prop} {x y : Operand} {s : List UInt8} {i : Nat} {ii : Int} {T : TypeId} {sz bb : Nat} {z : List Value} [ht : Ae P T .string sz bb z] (hx : Au E x = some (.string (str s)))
  (hy : Au E y = some (.int .i64 ii)) (hii : ii = ((i : Nat) : Int)) (hi : i < s.length) : Dz P E S ⟨some d, .index T x y, ty, pos, af, g⟩ (.int .u8 ((s.getD i 0).toNat : Nat)) :=
 Ie hx (hii ▸ hy) (b := s.getD i 0) (by simp [hi])
theorem R5 {S : World → Prop} {tys : Array TypeId} {x y : Operand} {a b : Int} (hx : Au E x = some (.int .i64 a)) (hy : Au E y = some (.int .i64 b)) : Dz P E S ⟨some d, .call ⟨.builtin .min, #[x, y], tys⟩, ty, pos, af, g⟩ (.int .i64 (if b < a then b else a)) := fun ac w he _ => by
 simp only [execOp, resolve, List.map_toArray, List.map, he.eval hx, he.eval hy]
 simp only [pure_bind, invoke, builtin]
 refine Ab (a := _) (w' := w) ?_ |>.trans rfl
 exact run_min_int2 ..
end
theorem Ss (m : Nat) : (if (m : Int) - 2 > 0 then (m : Int) - 2 else 0) = ((m - 2 : Nat) : Int) := by omega
theorem Md : ∀ k : Nat, Lib.repeatL [115] k = List.replicate k 115
 | 0 => rfl
 | k + 1 => by simp only [Lib.repeatL, Md k]; rfl
theorem Qj (h : Af) (hh : h.length ≤ As) (m : Nat) (hm : m ≤ 4294967296) (I : Heap) (L : At) : Fun Tryd.prog 28 [.string (str h), .int .i64 (m : Nat)] I L (Cr (.string (str (Er h m))) I L) := by
 refine Ag (by simp) ?_; refine Se rfl (Oa rfl (Aa (Ai (Se rfl (Om rfl (Aa (Av (Se rfl (Od rfl rfl rfl (Oa rfl (Aa ?_))))))))))); refine Am rfl ?_ ?_
 ·intro c0
  try simp only [nb] at c0
  refine Se rfl (Oa rfl (Aa (Ac (.tmp rfl .nil) ?_))); refine only rfl ?_
  unfold Er; simp_all <;> rfl
 intro c0
 try simp only [nb] at c0
 refine Ai (Se rfl (Od rfl rfl rfl (Oa rfl (Aa ?_)))); refine Am rfl ?_ ?_
 ·intro c1
  try simp only [nb] at c1
  refine Aj ?_
  first | refine St rfl (by first | assumption | omega) ?_ | refine Bk (by simp [A8, Au, *]) ?_
  refine Se rfl (Oa rfl (Aa (Ac (.tmp rfl .nil) ?_))); refine only rfl ?_
  unfold Er; simp_all <;> rfl
 intro c1
 try simp only [nb] at c1
 refine Ap rfl (Od rfl rfl rfl (Oa rfl (Aa ?_))); refine Am rfl ?_ ?_
 ·intro c2
  try simp only [nb] at c2
  refine Se rfl (Oa rfl (Aa (Ac (.tmp rfl .nil) ?_))); refine only rfl ?_
  unfold Er; simp_all <;> rfl
 intro c2
 try simp only [nb] at c2
 refine Ai (Se rfl (Od rfl rfl rfl (Oa rfl (Aa ?_)))); refine Am rfl ?_ ?_
 ·intro c3
  try simp only [nb] at c3
  refine Aj ?_
  first | refine St rfl (by first | assumption | omega) ?_ | refine Bk (by simp [A8, Au, *]) ?_
  refine Se rfl (Oa rfl (Aa (Ac (.tmp rfl .nil) ?_))); refine only rfl ?_
  unfold Er; simp_all <;> rfl
 intro c3
 try simp only [nb] at c3
 refine Se rfl (Od rfl rfl rfl (Oa rfl (Aa ?_))); refine Am rfl ?_ ?_
 ·intro c4
  try simp only [nb] at c4
  refine Aj ?_
  first | refine St rfl (by first | assumption | omega) ?_ | refine Bk (by simp [A8, Au, *]) ?_
  refine Se rfl (Oa rfl (Aa (Ac (.tmp rfl .nil) ?_))); refine only rfl ?_
  unfold Er; simp_all <;> rfl
 intro c4
 try simp only [nb] at c4
 refine Ap rfl (Od rfl rfl rfl (Oa rfl (Aa ?_))); refine Am rfl ?_ ?_
 ·intro c5
  try simp only [nb] at c5
  refine Se rfl (Oa rfl (Aa (Ac (.tmp rfl .nil) ?_))); refine only rfl ?_
  unfold Er; simp_all <;> rfl
 intro c5
 try simp only [nb] at c5
 refine Se rfl (Od rfl rfl rfl (Oa rfl (Aa ?_))); refine Am rfl ?_ ?_
 ·intro c6
  try simp only [nb] at c6
  refine Se rfl (Om rfl ?_); refine Or rfl rfl rfl ?_; refine Rw (a := 0) (b := (m : Int) - 2) rfl rfl .free rfl ?_; rw [Ss]; refine Ca rfl (Hn [115] (m - 2) (by simp; omega) (by omega) _ _) ?_; rintro _ _ _ _ ⟨rfl, rfl, rfl⟩; rw [Md]
  have hrl : (List.replicate (m - 2) (115 : UInt8)).length = m - 2 := by simp
  refine Ok rfl rfl ?_; refine Oa rfl (Aa (Ac (.tmp rfl .nil) ?_)); refine only rfl ?_
  unfold Er; simp_all <;> rfl
 intro c6
 try simp only [nb] at c6
 refine Se rfl (Od rfl rfl rfl (Oa rfl (Aa ?_))); refine Am rfl ?_ ?_
 ·intro c7
  try simp only [nb] at c7
  refine Se rfl (Oa rfl (Aa (Ac (.tmp rfl .nil) ?_))); refine only rfl ?_
  unfold Er; simp_all <;> rfl
 intro c7
 try simp only [nb] at c7
 refine Se rfl (Od rfl rfl rfl (Oa rfl (Aa ?_))); refine Am rfl ?_ ?_
 ·intro c8
  try simp only [nb] at c8
  refine Se rfl (Oa rfl (Aa (Ac (.tmp rfl .nil) ?_))); refine only rfl ?_
  unfold Er; simp_all <;> rfl
 intro c8
 try simp only [nb] at c8
 refine Se rfl (Od rfl rfl rfl (Oa rfl (Aa ?_))); refine Am rfl ?_ ?_
 ·intro c9
  try simp only [nb] at c9
  refine Se rfl (Oa rfl (Aa (Ac (.tmp rfl .nil) ?_))); refine only rfl ?_
  unfold Er; simp_all <;> rfl
 intro c9
 try simp only [nb] at c9
 refine Se rfl (Od rfl rfl rfl (Oa rfl (Aa ?_))); refine Am rfl ?_ ?_
 ·intro c10
  try simp only [nb] at c10
  refine Se rfl (Oa rfl (Aa (Ac (.tmp rfl .nil) ?_))); refine only rfl ?_
  unfold Er; simp_all <;> rfl
 intro c10
 try simp only [nb] at c10
 refine Ai (Se rfl (Od rfl rfl rfl (Oa rfl (Aa ?_)))); refine Am rfl ?_ ?_
 ·intro c11
  try simp only [nb] at c11
  refine Aj ?_
  first | refine St rfl (by first | assumption | omega) ?_ | refine Bk (by simp [A8, Au, *]) ?_
  refine Se rfl (Oa rfl (Aa (Ac (.tmp rfl .nil) ?_))); refine only rfl ?_
  unfold Er; simp_all <;> rfl
 intro c11
 try simp only [nb] at c11
 refine Ap rfl (Od rfl rfl rfl (Oa rfl (Aa ?_))); refine Am rfl ?_ ?_
 ·intro c12
  try simp only [nb] at c12
  refine Se rfl (Oa rfl (Aa (Ac (.tmp rfl .nil) ?_))); refine only rfl ?_
  unfold Er; simp_all <;> rfl
 intro c12
 try simp only [nb] at c12
 refine Aj (Ar (Se rfl (Oa rfl (Aa (Ac (.tmp rfl .nil) ?_))))); refine only rfl ?_
 unfold Er; simp_all <;> rfl
theorem Mz (h : Af) (I : Heap) (L : At) : Fun Tryd.prog 35 [.string (str h)] I L (Cr (.string (str (Fd h))) I L) := by
 refine Ag (by simp) ?_; refine Se rfl (Oa rfl (Aa (Ai (Se rfl (Om rfl (Aa (Av (Se rfl (Od rfl rfl rfl (Oa rfl (Aa ?_))))))))))); refine Am rfl ?_ ?_
 ·intro c0
  try simp only [nb] at c0
  refine Se rfl (Oa rfl (Aa (Ac (.tmp rfl .nil) ?_))); refine only rfl ?_
  unfold Fd; simp_all <;> rfl
 intro c0
 try simp only [nb] at c0
 refine Ai (Se rfl (Od rfl rfl rfl (Oa rfl (Aa ?_)))); refine Am rfl ?_ ?_
 ·intro c1
  try simp only [nb] at c1
  refine Aj ?_
  first | refine St rfl (by first | assumption | omega) ?_ | refine Bk (by simp [A8, Au, *]) ?_
  refine Se rfl (Oa rfl (Aa (Ac (.tmp rfl .nil) ?_))); refine only rfl ?_
  unfold Fd; simp_all <;> rfl
 intro c1
 try simp only [nb] at c1
 refine Ap rfl (Od rfl rfl rfl (Oa rfl (Aa ?_))); refine Am rfl ?_ ?_
 ·intro c2
  try simp only [nb] at c2
  refine Se rfl (Oa rfl (Aa (Ac (.tmp rfl .nil) ?_))); refine only rfl ?_
  unfold Fd; simp_all <;> rfl
 intro c2
 try simp only [nb] at c2
 refine Ai (Se rfl (Od rfl rfl rfl (Oa rfl (Aa ?_)))); refine Am rfl ?_ ?_
 ·intro c3
  try simp only [nb] at c3
  refine Aj ?_
  first | refine St rfl (by first | assumption | omega) ?_ | refine Bk (by simp [A8, Au, *]) ?_
  refine Se rfl (Oa rfl (Aa (Ac (.tmp rfl .nil) ?_))); refine only rfl ?_
  unfold Fd; simp_all <;> rfl
 intro c3
 try simp only [nb] at c3
 refine Se rfl (Od rfl rfl rfl (Oa rfl (Aa ?_))); refine Am rfl ?_ ?_
 ·intro c4
  try simp only [nb] at c4
  refine Aj ?_
  first | refine St rfl (by first | assumption | omega) ?_ | refine Bk (by simp [A8, Au, *]) ?_
  refine Se rfl (Oa rfl (Aa (Ac (.tmp rfl .nil) ?_))); refine only rfl ?_
  unfold Fd; simp_all <;> rfl
 intro c4
 try simp only [nb] at c4
 refine Ap rfl (Od rfl rfl rfl (Oa rfl (Aa ?_))); refine Am rfl ?_ ?_
 ·intro c5
  try simp only [nb] at c5
  refine Se rfl (Oa rfl (Aa (Ac (.tmp rfl .nil) ?_))); refine only rfl ?_
  unfold Fd; simp_all <;> rfl
 intro c5
 try simp only [nb] at c5
 refine Se rfl (Od rfl rfl rfl (Oa rfl (Aa ?_))); refine Am rfl ?_ ?_
 ·intro c6
  try simp only [nb] at c6
  refine Se rfl (Oa rfl (Aa (Ac (.tmp rfl .nil) ?_))); refine only rfl ?_
  unfold Fd; simp_all <;> rfl
 intro c6
 try simp only [nb] at c6
 refine Se rfl (Od rfl rfl rfl (Oa rfl (Aa ?_))); refine Am rfl ?_ ?_
 ·intro c7
  try simp only [nb] at c7
  refine Se rfl (Oa rfl (Aa (Ac (.tmp rfl .nil) ?_))); refine only rfl ?_
  unfold Fd; simp_all <;> rfl
 intro c7
 try simp only [nb] at c7
 refine Ai (Se rfl (Od rfl rfl rfl (Oa rfl (Aa ?_)))); refine Am rfl ?_ ?_
 ·intro c8
  try simp only [nb] at c8
  refine Aj ?_
  first | refine St rfl (by first | assumption | omega) ?_ | refine Bk (by simp [A8, Au, *]) ?_
  refine Se rfl (Oa rfl (Aa (Ac (.tmp rfl .nil) ?_))); refine only rfl ?_
  unfold Fd; simp_all <;> rfl
 intro c8
 try simp only [nb] at c8
 refine Ap rfl (Od rfl rfl rfl (Oa rfl (Aa ?_))); refine Am rfl ?_ ?_
 ·intro c9
  try simp only [nb] at c9
  refine Se rfl (Oa rfl (Aa (Ac (.tmp rfl .nil) ?_))); refine only rfl ?_
  unfold Fd; simp_all <;> rfl
 intro c9
 try simp only [nb] at c9
 refine Se rfl (Od rfl rfl rfl (Oa rfl (Aa ?_))); refine Am rfl ?_ ?_
 ·intro c10
  try simp only [nb] at c10
  refine Se rfl (Oa rfl (Aa (Ac (.tmp rfl .nil) ?_))); refine only rfl ?_
  unfold Fd; simp_all <;> rfl
 intro c10
 try simp only [nb] at c10
 refine Ai (Se rfl (Od rfl rfl rfl (Oa rfl (Aa ?_)))); refine Am rfl ?_ ?_
 ·intro c11
  try simp only [nb] at c11
  refine Aj ?_
  first | refine St rfl (by first | assumption | omega) ?_ | refine Bk (by simp [A8, Au, *]) ?_
  refine Se rfl (Oa rfl (Aa (Ac (.tmp rfl .nil) ?_))); refine only rfl ?_
  unfold Fd; simp_all <;> rfl
 intro c11
 try simp only [nb] at c11
 refine Ap rfl (Od rfl rfl rfl (Oa rfl (Aa ?_))); refine Am rfl ?_ ?_
 ·intro c12
  try simp only [nb] at c12
  refine Se rfl (Oa rfl (Aa (Ac (.tmp rfl .nil) ?_))); refine only rfl ?_
  unfold Fd; simp_all <;> rfl
 intro c12
 try simp only [nb] at c12
 refine Aj (Ar (Se rfl (Oa rfl (Aa (Ac (.tmp rfl .nil) ?_))))); refine only rfl ?_
 unfold Fd; simp_all <;> rfl
theorem N1 {I : Heap} {t : Tree} {cs : List Value} (h : Rep I t cs) (hg : t.good = true) (q : Nat) (hq : q < 256) (L : At) : Fun Tryd.prog 37 [.agg cs.toArray, .int .u8 (q : Nat)] I L (Cr (.bool (Ms q t)) I L) := by
 have hal := h.atom_le
 obtain ⟨oa, c, oaf, cf, rfl, hf⟩ := h.at'; refine Ag (by simp) ?_; refine Se rfl ?_; refine D2 rfl rfl .free rfl ?_; intro b2; refine Oa rfl (Aa (Ai (Se rfl (Om rfl (Aa (Av (Ai (Se rfl (Oc rfl rfl rfl (Oa rfl (Aa ?_))))))))))); refine Am rfl ?_ ?_
 ·intro c0
  try simp only [nb] at c0
  refine Aj ?_
  first | refine St rfl (by first | assumption | omega) ?_ | refine Bk (by simp [A8, Au, *]) ?_
  refine Se rfl ?_; refine Dg rfl .free rfl ?_; refine Ca rfl (Ly hf.rep _) ?_; rintro _ _ _ _ ⟨rfl, rfl, rfl⟩; refine Oc rfl rfl rfl (Oa rfl (Aa (Ac (.tmp rfl .nil) ?_))); refine only rfl ?_; refine congrArg Value.bool ?_
  have hq0 : q = 114 ∨ q = 42 := by omega
  rw [show Ms q t = Cn t.atom from if_pos hq0]
  cases hr : Cn t.atom with
  | false => simp
  | true =>
   have : 0 ≤ B6 t.atom := by unfold Cn at hr; simp at hr; exact hr.2.1
   simpa using this
 intro c0
 try simp only [nb] at c0
 refine Ap rfl (Oc rfl rfl rfl (Oa rfl (Aa ?_))); refine Am rfl ?_ ?_
 ·intro c1
  try simp only [nb] at c1
  refine Se rfl ?_; refine Dg rfl .free rfl ?_; refine Ca rfl (Ly hf.rep _) ?_; rintro _ _ _ _ ⟨rfl, rfl, rfl⟩; refine Oc rfl rfl rfl (Oa rfl (Aa (Ac (.tmp rfl .nil) ?_))); refine only rfl ?_; refine congrArg Value.bool ?_
  have hq0 : q = 114 ∨ q = 42 := by omega
  rw [show Ms q t = Cn t.atom from if_pos hq0]
  cases hr : Cn t.atom with
  | false => simp
  | true =>
   have : 0 ≤ B6 t.atom := by unfold Cn at hr; simp at hr; exact hr.2.1
   simpa using this
 intro c1
 try simp only [nb] at c1
 refine Se rfl (Oc rfl rfl rfl (Oa rfl (Aa ?_))); refine Am rfl ?_ ?_
 ·intro c2
  try simp only [nb] at c2
  refine Se rfl (Oh rfl ?_); refine Bl rfl .free rfl ?_; refine Ca rfl (G0 t.atom hal _ _) ?_; rintro _ _ _ _ ⟨rfl, rfl, rfl⟩; refine Om rfl (Oe rfl rfl (Oe rfl rfl (Oa rfl (Oa rfl (Aa (Se rfl (Om rfl (Oa rfl (Aa (Ac (.tmp rfl .nil) ?_)))))))))); refine only rfl ?_; obtain rfl : q = 110 := by omega
  rfl
 intro c2
 try simp only [nb] at c2
 refine Se rfl (Oc rfl rfl rfl (Oa rfl (Aa ?_))); refine Am rfl ?_ ?_
 ·intro c3
  try simp only [nb] at c3
  refine Se rfl (Oh rfl ?_); refine Bl rfl .free rfl ?_; refine Ca rfl (My t.atom hal _ _) ?_; rintro _ _ _ _ ⟨rfl, rfl, rfl⟩; refine Oa rfl (Aa (Ac (.tmp rfl .nil) ?_)); refine only rfl ?_; obtain rfl : q = 108 := by omega
  rfl
 intro c3
 try simp only [nb] at c3
 refine Se rfl (Oc rfl rfl rfl (Oa rfl (Aa ?_))); refine Am rfl ?_ ?_
 ·intro c4
  try simp only [nb] at c4
  refine Se rfl ?_; refine Dg rfl .free rfl ?_; refine Ca rfl (Lv hf.rep hg _) ?_; rintro _ _ _ _ ⟨rfl, rfl, rfl⟩; refine Od rfl rfl rfl (Om rfl ?_)
  apply Br 33 36 rfl
  ·intro g11_4 hk
   try simp only [nb] at g11_4
   refine Dg rfl (.met rfl rfl) rfl ?_; refine Bs rfl (.met rfl rfl) rfl (J6 _ false (Nat.lt_succ_self _) hf.rep hg _) ?_; rintro _ _ _ _ ⟨rfl, rfl, rfl⟩; refine Ot rfl rfl ?_
   exact Al 2 rfl rfl hk
  ·intro _ hk; refine Aq 2 rfl ?_; refine Of rfl rfl ?_
   exact Al 2 rfl rfl hk
  refine Oa rfl (Aa (Ac (.tmp rfl .nil) ?_)); refine only rfl ?_; obtain rfl : q = 101 := by omega
  refine congrArg Value.bool ?_; rw [show Ms 101 t = (decide (t.head = [101]) && t.target false) from rfl]
  try simp
 intro c4
 try simp only [nb] at c4
 refine Aj (Ar (Se rfl ?_)); refine Dg rfl .free rfl ?_; refine Ca rfl (J6 _ false (Nat.lt_succ_self _) hf.rep hg _) ?_; rintro _ _ _ _ ⟨rfl, rfl, rfl⟩; refine Oa rfl (Aa (Ac (.tmp rfl .nil) ?_)); refine only rfl ?_; refine congrArg Value.bool ?_
 unfold Ms
 rw [if_neg (by omega), if_neg (by omega), if_neg (by omega), if_neg (by omega)]
def Ej (s : Af) : Bool := match Bv s with | some t => t.instr | none => false
def Tree.last (t : Tree) : Bool := decide (t.head = [106, 117, 109, 112]) || decide (t.head = [104, 97, 108, 116])
def Gc (s : Af) : Bool := match Bv s with | some t => t.instr && t.last | none => false
def Tree.pts (t : Tree) : List Af := t.parts.map Tree.text
def En (s : Af) : Option (List Af) := match Bv s with | some t => if t.parts = [] then none else some t.pts | none => none
theorem K0 {s : Af} (h : Ej s = true) : ∃ t, Bv s = some t ∧ t.instr = true ∧ t.good = true := by
 unfold Ej at h
 cases hp : Bv s with
 | none => rw [hp] at h; cases h
 | some t => rw [hp] at h; exact ⟨t, rfl, h, (Dl hp).1⟩
theorem Jt {t : Tree} (hg : t.good = true) (h : t.atom ≠ []) : t.text = t.atom := t.text_atom (Lz hg h)
theorem Ou {h : Af} {n : Nat} (hne : Er h n ≠ []) : h ≠ [] ∧ ∃ c l, Er h n = c :: l ∧ (c = 100 ∨ c = 115) := by
 refine ⟨fun e => hne (by rw [e]; rfl), ?_⟩
 generalize hs : Er h n = s at hne ⊢
 unfold Er at hs
 repeat' split at hs
 all_goals subst hs
 all_goals first | exact ⟨_, _, rfl, .inl rfl⟩ | exact ⟨_, _, rfl, .inr rfl⟩ | exact absurd rfl hne
theorem E0 {t : Tree} (h : t.instr = true) (hg : t.good = true) : 2 ≤ t.parts.length ∧ Cn (t.pt 1).atom = true ∧ t.pts.getD 0 [] = t.head ∧ t.pts.getD 1 [] = (t.pt 1).atom ∧ (t.last = true → t.parts.length = 2) := by
 unfold Tree.instr at h
 rw [decide_eq_true_eq] at h; obtain ⟨h1, h2, h3⟩ := h
 have key : ∀ c l, Er t.head t.parts.length = c :: l → (c = 100 ∨ c = 115) → 2 ≤ t.parts.length ∧ Cn (t.pt 1).atom = true := by
  intro c l e hc; rw [e] at h2 h3
  simp only [List.length_cons] at h2 h3
  refine ⟨by omega, ?_⟩
  have := h3 0 (by omega)
  rcases hc with rfl | rfl
  ·rw [← B0]; exact this
  ·rw [← B3]; exact this
 obtain ⟨h6, cc, ll, hcl, hcc⟩ := Ou h1; obtain ⟨h4, h5⟩ := key cc ll hcl hcc
 have hp0 : t.pts.getD 0 [] = (t.pt 0).text := by
  unfold Tree.pts; rw [Tree.pt_at (by omega)]; simp [show 0 < t.parts.length by omega]
 have hp1 : t.pts.getD 1 [] = (t.pt 1).text := by
  unfold Tree.pts; rw [Tree.pt_at (by omega)]; simp [show 1 < t.parts.length by omega]
 have hh := Gj (t := t) (by omega)
 refine ⟨h4, h5, ?_, ?_, fun hl => ?_⟩
 ·rw [hp0, hh]; exact Jt (Tree.pt_good hg 0 (by omega)) (by rw [← hh]; exact h6)
 ·rw [hp1]; refine Jt (Tree.pt_good hg 1 (by omega)) fun e => ?_
  rw [e, N3] at h5; cases h5
 ·unfold Tree.last at hl
  simp only [Bool.or_eq_true, decide_eq_true_eq] at hl
  rcases hl with e | e <;> (rw [e] at h2; simpa [Er] using h2)
end Go.Proofs.YtbmgbhfeifgciaaDoor
