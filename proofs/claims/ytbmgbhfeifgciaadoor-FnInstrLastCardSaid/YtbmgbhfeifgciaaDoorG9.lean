/- The draws' reader: its picks are within bounds. No conditions. -/
import Derived.Test.YtbmgbhfeifgciaaDoorG8

namespace Go.Proofs.YtbmgbhfeifgciaaDoor
set_option maxRecDepth 100000
set_option linter.unusedVariables false
set_option linter.unusedSimpArgs false

theorem Bytes.take {I : Heap} {oa : Option Addr} {l : List UInt8} {c : Nat} (h : Bytes I oa l c) (m : Nat) (hm : m ≤ l.length) : Bytes I (if c = 0 then oa else oa.map (·.add (0 * 1))) (l.take m) (c - 0) := by
  have e : (if c = 0 then oa else oa.map (·.add (0 * 1))) = oa := by
    have : ∀ x : Addr, x.add (0 * 1) = x := fun x => by simp [Addr.add]
    cases oa <;> simp [this]
  rw [e]
  refine ⟨fun x hx => ?_, fun hx => by rw [h.nil hx]; simp, by have := h.cap; simp; omega, by have := h.len; simp; omega⟩
  rcases h.still x hx with h0 | ⟨cc, T, fr, hb, hs, hc⟩
  · exact .inl (by have : l = [] := by simpa using h0
                   simp [this])
  · refine .inr ⟨cc, T, fr, hb, hs, fun i hi => ?_⟩
    simp only [List.length_map, List.length_take] at hi
    rw [hc i (by simp; omega)]
    simp

def rd (b : Nat) (oa : Option Addr) (l : List UInt8) (c p : Nat) : Nat × Obj := (b, .cells [.slice oa l.length c, .int .i64 (p : Nat)].toArray 51 (0, 0))
def OP (L : At) : A5 := fun v I' L' => ∃ b oa l c, v = .pointer (some ⟨b, 0, none⟩) ∧ Bytes I' oa l c ∧ l.length ≤ 2000 ∧ L' = rd b oa l c 0 :: L
theorem Lw       {I : Heap} {oa : Option Addr} {l : List UInt8} {c : Nat} (h : Bytes I oa l c) (L : At ) : Fun Tryd.prog 14 [.slice oa l.length c] I L (OP L) := by
  have hlen := h.len
  have hcap := h.cap
  refine Ag        (by simp) ?_
  refine Se rfl (Oa rfl (Aa     (Ai    (Se rfl (Om rfl (On rfl (Oc rfl rfl rfl (Aa     ?_))))))))
  refine Si rfl ?_ ?_
  · intro c0
    refine Ap      rfl (Om rfl ?_)
    refine D9            rfl rfl rfl 0 2000 rfl rfl (by omega) .free rfl ?_
    refine Oa rfl (Aa     (Se rfl (Om rfl ?_)))
    refine Dh       rfl rfl rfl .free rfl ?_
    refine D2    rfl rfl .free rfl ?_
    intro b10
    refine Oa rfl (Aa     (Ac    (.tmp rfl .nil) ?_))
    first
      | exact ⟨I, _, .refl _, fun _ h => h, _, oa, l, c, rfl, h, by omega, rfl⟩
      | (have h2 := h.take 2000 (by omega)
         have e : (l.take 2000).length = 2000 - 0 := by simp; omega
         exact ⟨I, _, .refl _, fun _ h => h, _, _, l.take 2000, c - 0, rfl, h2, by omega, by unfold rd; rw [e]; rfl⟩)
  intro c0
  refine Aj     (Se rfl (Om rfl ?_))
  refine Dh       rfl rfl rfl .free rfl ?_
  refine D2    rfl rfl .free rfl ?_
  intro b10
  refine Oa rfl (Aa     (Ac    (.tmp rfl .nil) ?_))
  first
    | exact ⟨I, _, .refl _, fun _ h => h, _, oa, l, c, rfl, h, by omega, rfl⟩
    | (have h2 := h.take 2000 (by omega)
       have e : (l.take 2000).length = 2000 - 0 := by simp; omega
       exact ⟨I, _, .refl _, fun _ h => h, _, _, l.take 2000, c - 0, rfl, h2, by omega, by unfold rd; rw [e]; rfl⟩)

def PK (b : Nat) (oa : Option Addr) (l : List UInt8) (c p n : Nat) (I : Heap) (L : At) : A5 := fun v I' L' => ∃ r : Nat, v = .int .i64 (r : Nat) ∧ I = I' ∧ L' = rd b oa l c (p + 1) :: L ∧ (r < n ∨ r = 0)
theorem F9 {I : Heap} {oa : Option Addr} {l : List UInt8} {c : Nat} (h : Bytes I oa l c) (hl : l.length ≤ 2000) (b p n : Nat) (hp : p ≤ 1099511627776) (hn : n ≤ 4294967296) (L : At) :
  Fun Tryd.prog 25 [.pointer (some ⟨b, 0, none⟩), .int .i64 (n : Nat)] I (rd b oa l c p :: L) (PK b oa l c p n I L) := by
 unfold rd
 refine Ag (by simp) ?_; refine Se rfl (Oa rfl (Aa (Se rfl (Om rfl (Om rfl ?_))))); refine Bh rfl .free rfl ?_
 first | refine Oh rfl ?_ | refine Oj rfl ?_
 refine B7 rfl .free rfl ?_; refine Or rfl rfl rfl ?_; refine Bh rfl .free rfl ?_
 first | refine Oh rfl ?_ | refine Oj rfl ?_
 refine Cl rfl rfl rfl rfl .free ?_; refine Aa (Ai (Se rfl (Om rfl (Oc rfl rfl rfl (Om rfl ?_)))))
 first | refine Fa rfl rfl ?_ ?_ | refine De rfl rfl ?_ ?_ | refine Jq rfl rfl ?_ ?_
 ·intro g2_3
  iterate 6 refine A9 rfl rfl rfl ?_
  refine Ot rfl rfl (Aa ?_); refine Bk rfl ?_; refine Se rfl (Oa rfl (Aa (Ac (.tmp rfl .nil) ?_)))
  exact ⟨I, _, .refl _, fun _ h => h, 0, rfl, rfl, rfl, .inr rfl⟩
 intro g2_3; refine Ow rfl ?_; refine Bh rfl (.met rfl rfl) rfl ?_
 first | refine Ba rfl (.met rfl rfl) rfl ?_ | refine B9 rfl (.met rfl rfl) rfl ?_
 refine B7 rfl (.met rfl rfl) rfl ?_; refine Co rfl (.met rfl rfl) rfl ?_; refine A6 rfl rfl rfl (.met rfl rfl) rfl ?_; refine Of rfl rfl (Aa ?_); refine Si rfl ?_ ?_
 ·intro c0; refine Se rfl (Oa rfl (Aa (Ac (.tmp rfl .nil) ?_)))
  exact ⟨I, _, .refl _, fun _ h => h, 0, rfl, rfl, rfl, .inr rfl⟩
 intro c0; refine Aj (Se rfl (Om rfl ?_)); refine Bh rfl .free rfl ?_
 first | refine Oh rfl ?_ | refine Oj rfl ?_
 refine B7 rfl .free rfl ?_; refine Or rfl rfl rfl ?_; refine Oa rfl (Aa (Ai (Ai ?_))); refine P1 (t := 5) (v' := .int .i64 (p : Nat)) rfl (by congr 1; omega) ?_; refine Ap rfl (Om rfl (Om rfl ?_)); refine Bh rfl .free rfl ?_
 first | refine Oh rfl ?_ | refine Oj rfl ?_
 refine B7 rfl .free rfl ?_; refine On rfl (Oc rfl rfl rfl (Aa ?_)); refine Si rfl ?_ ?_
 ·intro c1; obtain ⟨x, hx, hst⟩ := h.at p (by omega); refine Se rfl (Om rfl ?_); refine Bh rfl .free rfl ?_
  first | refine Oh rfl ?_ | refine Oj rfl ?_
  refine B7 rfl .free rfl ?_; refine Om rfl ?_; refine Em rfl rfl _ rfl (by first | omega | exact Ax (by assumption) (by decide) | (simp; done) | (simp; omega) | decide | (simp at *; omega)) (by first | rfl | assumption) .free rfl ?_; refine B7 rfl .free rfl ?_; refine Gl rfl (by first | exact UInt8.toNat_lt _ | omega) .free rfl ?_; refine Om rfl ?_; refine Rg rfl rfl (by omega) .free rfl ?_; refine Oa rfl (Aa (Ac (.tmp rfl .nil) ?_))
  exact ⟨I, _, .refl _, fun _ h => h, _, rfl, rfl, rfl, .inl (Nat.mod_lt _ (by omega))⟩
 intro c1
 have hpos : 0 < l.length := by omega
 obtain ⟨r1, hr1, hr1l⟩ : ∃ r, r = p % l.length ∧ r < l.length := ⟨_, rfl, Nat.mod_lt _ hpos⟩; obtain ⟨r2, hr2, hr2l⟩ : ∃ r, r = (p * 7 + 3) % l.length ∧ r < l.length := ⟨_, rfl, Nat.mod_lt _ hpos⟩; obtain ⟨q, hq, hqp⟩ : ∃ q, q = p / l.length ∧ q ≤ p := ⟨_, rfl, Nat.div_le_self _ _⟩; obtain ⟨x1, hx1, u1, hu1, hst1⟩ : ∃ x, oa = some x ∧ ∃ u : Nat, u < 256 ∧ Still I (x.add (r1 * 1)) [.int .u8 (u : Nat)] := by
  obtain ⟨x, hx, hst⟩ := h.at r1 hr1l
  exact ⟨x, hx, _, UInt8.toNat_lt _, hst⟩
 obtain ⟨u2, hu2, hst2⟩ : ∃ u : Nat, u < 256 ∧ Still I (x1.add (r2 * 1)) [.int .u8 (u : Nat)] := by
  obtain ⟨x, hx, hst⟩ := h.at r2 hr2l; obtain rfl : x1 = x := by rw [hx1] at hx; exact Option.some.inj hx
  exact ⟨_, UInt8.toNat_lt _, hst⟩
 clear h
 refine Aj (Ai ?_); refine Fu 46 rfl rfl ?_; refine Da 0 rfl (Ay rfl) ?_; refine Da 1 rfl (Cd rfl) ?_
 first | refine Da 2 rfl (Bb rfl) ?_ | refine Da 2 rfl (Bp rfl) ?_
 refine Dt 3 [46] rfl (H1 rfl) ?_; refine Da 4 rfl (Ay rfl) ?_; refine Da 5 rfl (Ay rfl) ?_; refine Da 6 rfl (Cd rfl) ?_
 first | refine Da 7 rfl (Bb rfl) ?_ | refine Da 7 rfl (Bp rfl) ?_
 refine Dt 8 [46] rfl (H1 rfl) ?_; refine Da 9 rfl (Cq rfl) ?_; refine Da 10 rfl (Nw rfl rfl (by omega)) ?_; refine Iu (t := 57) rfl (v' := .int .i64 (r1 : Nat)) (by rw [hr1]) ?_; refine Cs 11 rfl (by kernel_rfl) rfl (.inr Cm) (Dw rfl rfl _ rfl (by first | omega | exact Ax (by assumption) (by decide) | (simp; done) | (simp; omega) | decide | (simp at *; omega)) (by first | rfl | assumption)) .free rfl ?_; refine Dt 12 [46] rfl (H1 rfl) ?_; refine Cs 13 rfl (by kernel_rfl) rfl (.inr Cm) (H0 rfl (by first | exact UInt8.toNat_lt _ | omega)) .free rfl ?_
 refine Da 14 rfl (Dj rfl rfl rfl (by omega)) ?_; refine Da 15 rfl (Ay rfl) ?_; refine Da 16 rfl (Cd rfl) ?_
 first | refine Da 17 rfl (Bb rfl) ?_ | refine Da 17 rfl (Bp rfl) ?_
 refine Dt 18 [46] rfl (H1 rfl) ?_; refine Da 19 rfl (Ay rfl) ?_; refine Da 20 rfl (Dj rfl rfl rfl (by omega)) ?_; refine Da 21 rfl (Dj rfl rfl rfl (by omega)) ?_; refine Da 22 rfl (Ay rfl) ?_; refine Da 23 rfl (Cd rfl) ?_
 first | refine Da 24 rfl (Bb rfl) ?_ | refine Da 24 rfl (Bp rfl) ?_
 refine Dt 25 [46] rfl (H1 rfl) ?_; refine Da 26 rfl (Cq rfl) ?_; refine Iu (t := 68) rfl (v' := .int .i64 ((p * 7 + 3 : Nat))) (by congr 1) ?_; refine Da 27 rfl (Nw rfl rfl (by omega)) ?_; refine Iu (t := 74) rfl (v' := .int .i64 (r2 : Nat)) (by rw [hr2]) ?_; refine Cs 28 rfl (by kernel_rfl) rfl (.inr Cm) (Dw rfl rfl _ rfl (by first | omega | exact Ax (by assumption) (by decide) | (simp; done) | (simp; omega) | decide | (simp at *; omega)) (by first | rfl | assumption)) .free rfl ?_; refine Dt 29 [46] rfl (H1 rfl) ?_
 refine Cs 30 rfl (by kernel_rfl) rfl (.inr Cm) (H0 rfl (by first | exact UInt8.toNat_lt _ | omega)) .free rfl ?_; refine Da 31 rfl (Dj rfl rfl rfl (by omega)) ?_; refine Da 32 rfl (Dj rfl rfl rfl (by omega)) ?_; refine Da 33 rfl (Ay rfl) ?_; refine Da 34 rfl (Dj rfl rfl rfl (by omega)) ?_; refine Da 35 rfl (Dj rfl rfl rfl (by omega)) ?_; refine Da 36 rfl (Ay rfl) ?_; refine Da 37 rfl (Ay rfl) ?_; refine Da 38 rfl (Cd rfl) ?_
 first | refine Da 39 rfl (Bb rfl) ?_ | refine Da 39 rfl (Bp rfl) ?_
 refine Dt 40 [46] rfl (H1 rfl) ?_; refine Da 41 rfl (Cq rfl) ?_; refine Da 42 rfl (Qc rfl rfl (by omega) (by omega)) ?_; refine Iu (t := 89) rfl (v' := .int .i64 (q : Nat)) (by rw [hq]) ?_; refine Da 43 rfl (Dj rfl rfl rfl (by omega)) ?_; refine Da 44 rfl (Dj rfl rfl rfl (by omega)) ?_; refine Da 45 rfl (Bd rfl) ?_; refine Dk (by kernel_rfl) ?_; refine Ai ?_; obtain ⟨m, hm, hm2⟩ : ∃ m : Nat, (m : Int) = ↑u1 * 131 + ↑u2 * 1117 + ↑p * 29 + ↑q * 53 ∧ m ≤ 1152921504606846976 := ⟨u1 * 131 + u2 * 1117 + p * 29 + q * 53, by omega, by omega⟩
 refine P1 (t := 6) (v' := .int .i64 (m : Nat)) rfl (by congr 1; omega) ?_; refine Ap rfl (Om rfl (Om rfl ?_)); refine Sy (b := 64) rfl rfl (by omega) (by omega) .free rfl ?_; refine Sz rfl rfl (by omega) (by omega) .free rfl ?_; refine Oa rfl (Aa (Se rfl (Om rfl (Om rfl ?_)))); refine Rg rfl rfl (by omega) .free rfl ?_; refine Oa rfl (Aa (Ac (.tmp rfl .nil) ?_))
 exact ⟨I, _, .refl _, fun _ h => h, _, rfl, rfl, rfl, .inl (Nat.mod_lt _ (by omega))⟩
def OF (b : Nat) (oa : Option Addr) (l : List UInt8) (c p : Nat) (ts : List Af) (I : Heap) (L : At) : A5 := fun v I' L' => ∃ s, v = .string (str s) ∧ s ∈ ts ∧ I = I' ∧ L' = rd b oa l c (p + 1) :: L
theorem C7 {I : Heap} {oa : Option Addr} {l : List UInt8} {c : Nat} (h : Bytes I oa l c) (hl : l.length ≤ 2000) (b p : Nat) (hp : p ≤ 1099511627776) {ob : Option Addr} {ts : List Af} {c' : Nat} (hts : Strs I ob ts c') (hne : ts ≠ []) (L : At) :
  Fun Tryd.prog 26 [.pointer (some ⟨b, 0, none⟩), .slice ob ts.length c'] I (rd b oa l c p :: L) (OF b oa l c p ts I L) := by
 have hlen := hts.len
 unfold As at hlen
 have hpos := List.length_pos_iff.2 hne
 refine Ag (by simp) ?_; refine Se rfl (Oa rfl (Aa (Se rfl ?_)))
 iterate 3 refine Om rfl ?_
 refine On rfl ?_; refine Ca rfl (F9 h hl b p ts.length hp hlen L) ?_; rintro _ _ _ _ ⟨r, rfl, rfl, rfl, hr⟩; obtain ⟨x, hx, hst⟩ := hts.at r (by omega); refine Em rfl rfl _ rfl (by first | omega | exact Ax (by assumption) (by decide) | (simp; done) | (simp; omega) | decide | (simp at *; omega)) (by first | rfl | assumption) .free rfl ?_; refine B7 rfl .free rfl ?_; refine Oa rfl (Aa (Ac (.tmp rfl .nil) ?_))
 exact ⟨I, _, .refl _, fun _ h => h, _, rfl, List.getElem_mem _, rfl, rfl⟩

def Uj (l : List Af) (L : At) : A5 := fun v I' L' => ∃ oa c, v = .slice oa (List.length l) c ∧ Strs I' oa l c ∧ L = L'
def EV (b : Nat) (oa : Option Addr) (l : List UInt8) (c p : Nat) (L : At) : A5 := fun v I' L' => ∃ o1 n1 c1 o2 n2 c2, v = .tuple #[.slice o1 (List.length n1) c1, .slice o2 (List.length n2) c2] ∧ Strs I' o1 n1 c1 ∧ Strs I' o2 n2 c2 ∧ n1.length ≤ 16 ∧ n2.length ≤ 16 ∧ (∀ s ∈ n1, s.length ≤ 16) ∧ (∀ s ∈ n2, s.length ≤ 16) ∧ L' = rd b oa l c (p + 1) :: L
theorem P3 {I : Heap} {b : Nat} {l : List Af} {e : TypeId} (hlen : l.length ≤ As) (hs : ∀ s ∈ l, s.length ≤ As) : Strs (I.set b (.cells (l.map sv).toArray e (0, 0))) (some ⟨b, 0, none⟩) l l.length :=
 ⟨fun y hy => by cases hy; simpa using D7 (xs := l.map sv) (ys := []), by simp, Nat.le_refl _, hlen, hs⟩
theorem Cb {P : Program} {f : FuncId} {n : Nat} {I₀ : Heap} {Q : A5} {k : List Item} {E : D3} {I : Heap} {L : At} {ops : Array Oper} {ol : List Oper} {e : TypeId} {b : Nat} (l : List Af) (hlen : l.length ≤ As) (hs : ∀ s ∈ l, s.length ≤ As)
  (h : ∀ I', HLe I I' → Strs I' (some ⟨b, 0, none⟩) l l.length → Ah P f n I₀ Q ops ol k E I' L) : Ah P f n I₀ Q ops ol k E I ((b, .cells (l.map sv).toArray e (0, 0)) :: L) :=
 Pp fun hle => h _ hle (P3 hlen hs)
def DE (L : At) : A5 := fun v I' L' => ∃ o1 n1 c1 o2 n2 c2, v = .tuple #[.slice o1 (List.length n1) c1, .slice o2 (List.length n2) c2] ∧ Strs I' o1 n1 c1 ∧ Strs I' o2 n2 c2 ∧ n1.length ≤ 16 ∧ n2.length ≤ 16 ∧ (∀ s ∈ n1, s.length ≤ 16) ∧ (∀ s ∈ n2, s.length ≤ 16) ∧ L = L'
def DL (L : At) : A5 := fun v I' L' => ∃ o1 n1 c1 o2 n2 c2 s, v = .tuple #[.slice o1 (List.length n1) c1, .slice o2 (List.length n2) c2, .string (str s)] ∧ Strs I' o1 n1 c1 ∧ Strs I' o2 n2 c2 ∧ n1.length ≤ 16 ∧ n2.length ≤ 16 ∧ (∀ s ∈ n1, s.length ≤ 16) ∧ (∀ s ∈ n2, s.length ≤ 16) ∧ s.length ≤ 16 ∧ L = L'
def T9 (r : Except Ex Ty) (ok : Bool) (u w : Tree) : Prop := match r with
 | .ok t => ok = true ∧ u = t.tree
 | .error x => ok = false ∧ w = x.tree
def TO (r : Except Ex Ty) (L : At) : A5 := fun v I' L' => ∃ u cs w ds ok, v = .tuple #[.agg cs.toArray, .agg ds.toArray, .bool ok] ∧ Rep I' u cs ∧ Rep I' w ds ∧ L = L' ∧ T9 r ok u w
structure TR where
 J : Heap
 b1 : Nat
 b2 : Nat
 u : Tree
 w : Tree
 o1 : Option Addr
 k1 : Nat
 o2 : Option Addr
 k2 : Nat
 ok : Bool
structure TG where
 J : Heap
 ts : List Ty
 xs : List Value
 B : Hl
 c : Nat
def TG.is (e : Ex) (l : List Af) (m : List Ty) (J0 : Heap) (x : TG) : Prop := HLe J0 x.J ∧ x.ts.length ≤ e.sub.length ∧ RepL x.J (x.ts.map Ty.tree) x.xs ∧ Eh 2 x.ts.length x.c x.xs x.B ∧ smallL x.ts ∧
 e.runs l m = e.run l m (e.sub.drop x.ts.length) ((Rs e.tree).drop x.ts.length) x.ts

def Jj (sg s : Af) : Option (Ty × Ty) := match P9 s with
 | some (.fn a b) => if sg = [62] then some (a, b) else none
 | some (.pr a b) => if sg = [42] then some (a, b) else none
 | _ => none
def t1 (o : Option (Ty × Ty)) : Af := (o.map fun p => p.1.tree.text).getD []
def t2 (o : Option (Ty × Ty)) : Af := (o.map fun p => p.2.tree.text).getD []
def Su (f : Bool) (a b : Ty) : Ty := if f then .fn a b else .pr a b
def Tq (f : Bool) (a b : Af) : Option Af := match P9 a, P9 b with
 | some x, some y => if (Su f x y).size ≤ 16 then some (Su f x y).tree.text else none
 | _, _ => none
def Um (f : Bool) : Af := if f then [62] else [42]
def T6 (h k0 k1 k2 : Af) : Af :=
 if h = Sd ∧ k0 = [105] ∧ k1 = k2 then k1
 else if h = Nu ∧ (Jj [62] k0).isSome = true ∧ t1 (Jj [62] k0) = k1 then t2 (Jj [62] k0)
 else if h = Mj then (Tq false k0 k1).getD []
 else if h = Q0 ∧ (Jj [42] k0).isSome = true then t1 (Jj [42] k0)
 else if h = Q1 ∧ (Jj [42] k0).isSome = true then t2 (Jj [42] k0)
 else if (h = [43] ∨ h = [45] ∨ h = [42]) ∧ k0 = [105] ∧ k1 = [105] then [105]
 else []
def T3 (h : Af) (n : Nat) : Prop := (∃ o : B5, h = o.txt ∧ n = 2) ∨ (h = Sd ∧ n = 3) ∨ (∃ o : U2, h = o.txt ∧ n = 1)
abbrev tx (m : List Ty) : List Af := m.map fun t => t.tree.text
def ST (s : Af) (L : At) : A5 := fun v I' L' => v = .string (str s) ∧ L = L'
def TW (o : Option (Ty × Ty)) (L : At) : A5 := fun v I' L' => v = .tuple #[.string (str (t1 o)), .string (str (t2 o)), .bool o.isSome] ∧ L = L'
theorem RStrs.mono {I I' : Heap} (hle : HLe I I') {L : At} {oa : Option Addr} {l : List Af} (h : RStrs I L oa l) : RStrs I' L oa l := ⟨fun a ha => Jc hle (h.reads a ha), h.nil, h.len⟩
end Go.Proofs.YtbmgbhfeifgciaaDoor
