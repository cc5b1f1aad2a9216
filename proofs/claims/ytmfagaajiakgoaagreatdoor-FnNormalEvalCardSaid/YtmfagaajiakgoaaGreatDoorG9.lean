/- The draws' reader: its picks are within bounds. No conditions. -/
import Derived.Test.YtmfagaajiakgoaaGreatDoorG8

namespace Go.Proofs.YtmfagaajiakgoaaGreatDoor
set_option maxRecDepth 100000
set_option linter.unusedVariables false
set_option linter.unusedSimpArgs false

theorem Bytes.take {I : Heap} {oa : Option Addr} {l : List UInt8} {c : Nat} (h : Bytes I oa l c) (m : Nat) (hm : m ≤ l.length) : Bytes I (if c = 0 then oa else oa.map (·.add (0 * 1))) (l.take m) (c - 0) := by
  have e : (if c = 0 then oa else oa.map (·.add (0 * 1))) = oa := by
    have : ∀ x : Addr, x.add (0 * 1) = x := fun x => by simp [Addr.add]
    cases oa <;> simp [this]
  rw [e]
  refine ⟨fun x hx => ?_, fun hx => by rw [h.nil hx]; simp, by have := h.cap; simp; omega, by have := h.len; simp; omega⟩
  rcases h.still x hx with h0 | ⟨cc, T, fr, hb, hs, hc⟩
  · exact .inl (by have : l = [] := by simpa using h0
                   simp [this])
  · refine .inr ⟨cc, T, fr, hb, hs, fun i hi => ?_⟩
    simp only [List.length_map, List.length_take] at hi
    rw [hc i (by simp; omega)]
    simp

def rd (b : Nat) (oa : Option Addr) (l : List UInt8) (c p : Nat) : Nat × Obj := (b, .cells [.slice oa l.length c, .int .i64 (p : Nat)].toArray 94 (0, 0))
def OP (L : Bj) : Cv := fun v I' L' => ∃ b oa l c, v = .pointer (some ⟨b, 0, none⟩) ∧ Bytes I' oa l c ∧ l.length ≤ 2000 ∧ L' = rd b oa l c 0 :: L
theorem Adi      {I : Heap} {oa : Option Addr} {l : List UInt8} {c : Nat} (h : Bytes I oa l c) (L : Bj ) : Fun Tryz.prog 40 [.slice oa l.length c] I L (OP L) := by
  have hlen := h.len
  have hcap := h.cap
  refine Ao        (by simp) ?_
  refine Se rfl (Oa rfl (Ab     (Ah    (Se rfl (Om rfl (On rfl (Oc rfl rfl rfl (Ab     ?_))))))))
  refine Si rfl ?_ ?_
  · intro c0
    refine Al      rfl (Om rfl ?_)
    refine Lm            rfl rfl rfl 0 2000 rfl rfl (by omega) .free rfl ?_
    refine Oa rfl (Ab     (Se rfl (Om rfl ?_)))
    refine Cd       rfl rfl rfl .free rfl ?_
    refine Cm    rfl rfl .free rfl ?_
    intro b10
    refine Oa rfl (Ab     (Am    (.tmp rfl .nil) ?_))
    first
      | exact ⟨I, _, .refl _, fun _ h => h, _, oa, l, c, rfl, h, by omega, rfl⟩
      | (have h2 := h.take 2000 (by omega)
         have e : (l.take 2000).length = 2000 - 0 := by simp; omega
         exact ⟨I, _, .refl _, fun _ h => h, _, _, l.take 2000, c - 0, rfl, h2, by omega, by unfold rd; rw [e]; rfl⟩)
  intro c0
  refine Ak     (Se rfl (Om rfl ?_))
  refine Cd       rfl rfl rfl .free rfl ?_
  refine Cm    rfl rfl .free rfl ?_
  intro b10
  refine Oa rfl (Ab     (Am    (.tmp rfl .nil) ?_))
  first
    | exact ⟨I, _, .refl _, fun _ h => h, _, oa, l, c, rfl, h, by omega, rfl⟩
    | (have h2 := h.take 2000 (by omega)
       have e : (l.take 2000).length = 2000 - 0 := by simp; omega
       exact ⟨I, _, .refl _, fun _ h => h, _, _, l.take 2000, c - 0, rfl, h2, by omega, by unfold rd; rw [e]; rfl⟩)

def PK (b : Nat) (oa : Option Addr) (l : List UInt8) (c p n : Nat) (I : Heap) (L : Bj) : Cv := fun v I' L' => ∃ r : Nat, v = .int .i64 (r : Nat) ∧ I = I' ∧ L' = rd b oa l c (p + 1) :: L ∧ (r < n ∨ r = 0)
theorem D3 {I : Heap} {oa : Option Addr} {l : List UInt8} {c : Nat} (h : Bytes I oa l c) (hl : l.length ≤ 2000) (b p n : Nat) (hp : p ≤ 1099511627776) (hn : n ≤ 4294967296) (L : Bj) :
  Fun Tryz.prog 50 [.pointer (some ⟨b, 0, none⟩), .int .i64 (n : Nat)] I (rd b oa l c p :: L) (PK b oa l c p n I L) := by
 unfold rd
 refine Ao Ae ?_; refine Se rfl (Oa rfl (Ab (Se rfl (Om rfl (Om rfl ?_))))); refine Aw rfl .free rfl ?_
 first | refine Oh rfl ?_ | refine Oj rfl ?_
 refine C1 rfl .free rfl ?_; refine Or rfl rfl rfl ?_; refine Aw rfl .free rfl ?_
 first | refine Oh rfl ?_ | refine Oj rfl ?_
 refine By rfl rfl rfl rfl .free ?_; refine Ab (Ah (Se rfl (Om rfl (Oc rfl rfl rfl (Om rfl ?_)))))
 first | refine Ho rfl rfl ?_ ?_ | refine Fp rfl rfl ?_ ?_ | refine Nd rfl rfl ?_ ?_
 ·intro g2_3
  iterate 6 refine Cy rfl rfl rfl ?_
  refine Ot rfl rfl (Ab ?_); refine B9 rfl ?_; refine Se rfl (Oa rfl (Ab (Am (.tmp rfl .nil) ?_)))
  exact ⟨I, _, .refl _, fun _ h => h, 0, rfl, rfl, rfl, .inr rfl⟩
 intro g2_3; refine Ow rfl ?_; refine Aw rfl (.met rfl rfl) rfl ?_
 first | refine Cj rfl (.met rfl rfl) rfl ?_ | refine Bh rfl (.met rfl rfl) rfl ?_
 refine C1 rfl (.met rfl rfl) rfl ?_; refine Nj rfl (.met rfl rfl) rfl ?_; refine D8 rfl rfl rfl (.met rfl rfl) rfl ?_; refine Of rfl rfl (Ab ?_); refine Si rfl ?_ ?_
 ·intro c0; refine Se rfl (Oa rfl (Ab (Am (.tmp rfl .nil) ?_)))
  exact ⟨I, _, .refl _, fun _ h => h, 0, rfl, rfl, rfl, .inr rfl⟩
 intro c0; refine Ak (Se rfl (Om rfl ?_)); refine Aw rfl .free rfl ?_
 first | refine Oh rfl ?_ | refine Oj rfl ?_
 refine C1 rfl .free rfl ?_; refine Or rfl rfl rfl ?_; refine Oa rfl (Ab (Ah (Ah ?_))); refine Jv (t := 5) (v' := .int .i64 (p : Nat)) rfl F7 ?_; refine Al rfl (Om rfl (Om rfl ?_)); refine Aw rfl .free rfl ?_
 first | refine Oh rfl ?_ | refine Oj rfl ?_
 refine C1 rfl .free rfl ?_; refine On rfl (Oc rfl rfl rfl (Ab ?_)); refine Si rfl ?_ ?_
 ·intro c1; obtain ⟨x, hx, hst⟩ := h.at p Aa; refine Se rfl (Om rfl ?_); refine Aw rfl .free rfl ?_
  first | refine Oh rfl ?_ | refine Oj rfl ?_
  refine C1 rfl .free rfl ?_; refine Om rfl ?_; refine Ck rfl rfl _ rfl Bx Dp .free rfl ?_; refine C1 rfl .free rfl ?_; refine N3 rfl (by first | exact UInt8.toNat_lt _ | omega) .free rfl ?_; refine Om rfl ?_; refine Aga rfl rfl Aa .free rfl ?_; refine Oa rfl (Ab (Am (.tmp rfl .nil) ?_))
  exact ⟨I, _, .refl _, fun _ h => h, _, rfl, rfl, rfl, .inl (Nat.mod_lt _ Aa)⟩
 intro c1
 have hpos : 0 < l.length := by omega
 obtain ⟨r1, hr1, hr1l⟩ : ∃ r, r = p % l.length ∧ r < l.length := ⟨_, rfl, Nat.mod_lt _ hpos⟩; obtain ⟨r2, hr2, hr2l⟩ : ∃ r, r = (p * 7 + 3) % l.length ∧ r < l.length := ⟨_, rfl, Nat.mod_lt _ hpos⟩; obtain ⟨q, hq, hqp⟩ : ∃ q, q = p / l.length ∧ q ≤ p := ⟨_, rfl, Nat.div_le_self _ _⟩; obtain ⟨x1, hx1, u1, hu1, hst1⟩ : ∃ x, oa = some x ∧ ∃ u : Nat, u < 256 ∧ Still I (x.add (r1 * 1)) [.int .u8 (u : Nat)] := by
  obtain ⟨x, hx, hst⟩ := h.at r1 hr1l
  exact ⟨x, hx, _, UInt8.toNat_lt _, hst⟩
 obtain ⟨u2, hu2, hst2⟩ : ∃ u : Nat, u < 256 ∧ Still I (x1.add (r2 * 1)) [.int .u8 (u : Nat)] := by
  obtain ⟨x, hx, hst⟩ := h.at r2 hr2l; obtain rfl : x1 = x := by rw [hx1] at hx; exact Option.some.inj hx
  exact ⟨_, UInt8.toNat_lt _, hst⟩
 clear h
 refine Ak (Ah ?_); refine Fh 46 rfl rfl ?_; refine Da 0 rfl (Ai rfl) ?_; refine Da 1 rfl (Cb rfl) ?_
 first | refine Da 2 rfl (Aj rfl) ?_ | refine Da 2 rfl (A4 rfl) ?_
 refine Dt 3 [46] rfl (Ra rfl) ?_; refine Da 4 rfl (Ai rfl) ?_; refine Da 5 rfl (Ai rfl) ?_; refine Da 6 rfl (Cb rfl) ?_
 first | refine Da 7 rfl (Aj rfl) ?_ | refine Da 7 rfl (A4 rfl) ?_
 refine Dt 8 [46] rfl (Ra rfl) ?_; refine Da 9 rfl (Fd rfl) ?_; refine Da 10 rfl (Aax rfl rfl Aa) ?_; refine G8 (t := 57) rfl (v' := .int .i64 (r1 : Nat)) (by rw [hr1]) ?_; refine G1 11 rfl Af rfl (.inr Au) (F5 rfl rfl _ rfl Bx Dp) .free rfl ?_; refine Dt 12 [46] rfl (Ra rfl) ?_; refine G1 13 rfl Af rfl (.inr Au) (Q9 rfl (by first | exact UInt8.toNat_lt _ | omega)) .free rfl ?_; refine Da 14 rfl (H2 rfl rfl rfl Aa) ?_; refine Da 15 rfl (Ai rfl) ?_; refine Da 16 rfl (Cb rfl) ?_
 first | refine Da 17 rfl (Aj rfl) ?_ | refine Da 17 rfl (A4 rfl) ?_
 refine Dt 18 [46] rfl (Ra rfl) ?_; refine Da 19 rfl (Ai rfl) ?_; refine Da 20 rfl (H2 rfl rfl rfl Aa) ?_; refine Da 21 rfl (H2 rfl rfl rfl Aa) ?_; refine Da 22 rfl (Ai rfl) ?_; refine Da 23 rfl (Cb rfl) ?_
 first | refine Da 24 rfl (Aj rfl) ?_ | refine Da 24 rfl (A4 rfl) ?_
 refine Dt 25 [46] rfl (Ra rfl) ?_; refine Da 26 rfl (Fd rfl) ?_; refine G8 (t := 68) rfl (v' := .int .i64 ((p * 7 + 3 : Nat))) (by congr 1) ?_; refine Da 27 rfl (Aax rfl rfl Aa) ?_; refine G8 (t := 74) rfl (v' := .int .i64 (r2 : Nat)) (by rw [hr2]) ?_; refine G1 28 rfl Af rfl (.inr Au) (F5 rfl rfl _ rfl Bx Dp) .free rfl ?_; refine Dt 29 [46] rfl (Ra rfl) ?_; refine G1 30 rfl Af rfl (.inr Au) (Q9 rfl (by first | exact UInt8.toNat_lt _ | omega)) .free rfl ?_; refine Da 31 rfl (H2 rfl rfl rfl Aa) ?_; refine Da 32 rfl (H2 rfl rfl rfl Aa) ?_; refine Da 33 rfl (Ai rfl) ?_
 refine Da 34 rfl (H2 rfl rfl rfl Aa) ?_; refine Da 35 rfl (H2 rfl rfl rfl Aa) ?_; refine Da 36 rfl (Ai rfl) ?_; refine Da 37 rfl (Ai rfl) ?_; refine Da 38 rfl (Cb rfl) ?_
 first | refine Da 39 rfl (Aj rfl) ?_ | refine Da 39 rfl (A4 rfl) ?_
 refine Dt 40 [46] rfl (Ra rfl) ?_; refine Da 41 rfl (Fd rfl) ?_; refine Da 42 rfl (Aey rfl rfl Aa Aa) ?_; refine G8 (t := 89) rfl (v' := .int .i64 (q : Nat)) (by rw [hq]) ?_; refine Da 43 rfl (H2 rfl rfl rfl Aa) ?_; refine Da 44 rfl (H2 rfl rfl rfl Aa) ?_; refine Da 45 rfl (Bk rfl) ?_; refine A5 Af ?_; refine Ah ?_; obtain ⟨m, hm, hm2⟩ : ∃ m : Nat, (m : Int) = ↑u1 * 131 + ↑u2 * 1117 + ↑p * 29 + ↑q * 53 ∧ m ≤ 1152921504606846976 := ⟨u1 * 131 + u2 * 1117 + p * 29 + q * 53, by omega, by omega⟩; refine Jv (t := 6) (v' := .int .i64 (m : Nat)) rfl F7 ?_; refine Al rfl (Om rfl (Om rfl ?_))
 refine Ahh (b := 64) rfl rfl Aa Aa .free rfl ?_; refine Ahi rfl rfl Aa Aa .free rfl ?_; refine Oa rfl (Ab (Se rfl (Om rfl (Om rfl ?_)))); refine Aga rfl rfl Aa .free rfl ?_; refine Oa rfl (Ab (Am (.tmp rfl .nil) ?_))
 exact ⟨I, _, .refl _, fun _ h => h, _, rfl, rfl, rfl, .inl (Nat.mod_lt _ Aa)⟩
def OF (b : Nat) (oa : Option Addr) (l : List UInt8) (c p : Nat) (ts : List As) (I : Heap) (L : Bj) : Cv := fun v I' L' => ∃ s, v = .string (str s) ∧ s ∈ ts ∧ I = I' ∧ L' = rd b oa l c (p + 1) :: L
theorem Fc {I : Heap} {oa : Option Addr} {l : List UInt8} {c : Nat} (h : Bytes I oa l c) (hl : l.length ≤ 2000) (b p : Nat) (hp : p ≤ 1099511627776) {ob : Option Addr} {ts : List As} {c' : Nat} (hts : Strs I ob ts c') (hne : ts ≠ []) (L : Bj) :
  Fun Tryz.prog 80 [.pointer (some ⟨b, 0, none⟩), .slice ob ts.length c'] I (rd b oa l c p :: L) (OF b oa l c p ts I L) := by
 have hlen := hts.len
 unfold Bg at hlen
 have hpos := List.length_pos_iff.2 hne
 refine Ao Ae ?_; refine Se rfl (Oa rfl (Ab (Se rfl ?_)))
 iterate 3 refine Om rfl ?_
 refine On rfl ?_; refine Ca rfl (D3 h hl b p ts.length hp hlen L) ?_; rintro _ _ _ _ ⟨r, rfl, rfl, rfl, hr⟩; obtain ⟨x, hx, hst⟩ := hts.at r Aa; refine Ck rfl rfl _ rfl Bx Dp .free rfl ?_; refine C1 rfl .free rfl ?_; refine Oa rfl (Ab (Am (.tmp rfl .nil) ?_))
 exact ⟨I, _, .refl _, fun _ h => h, _, rfl, List.getElem_mem _, rfl, rfl⟩

def LS1 (l : List As) (L : Bj) : Cv := fun v I' L' => ∃ oa c, v = .slice oa (List.length l) c ∧ Strs I' oa l c ∧ L = L'
theorem L0 {I : Heap} {oa ob : Option Addr} {l m : List As} {c c' : Nat} (h : Strs I oa l c) (h' : Strs I ob m c') (hlm : l.length + m.length ≤ Bg) (L : Bj) :
  Fun Tryz.prog 148 [.slice oa l.length c, .slice ob m.length c'] I L (LS1 (l ++ m) L) := by
 unfold Bg at hlm
 refine Ao Ae ?_; refine Se rfl (Oa rfl (Ab (Se rfl ?_))); refine Dl .free rfl ?_; intro b5; refine Om rfl ?_; refine Gt (B := some (b5, [])) (xs := []) (ys := l.map sv) (m := 0) (c := 0) Av Ac rfl rfl ⟨rfl, Nat.le_refl _, rfl⟩ (fun _ h => h) Ae h.reads h.none (Cn l) Ad Aa Ad .free rfl ?_; intro B1 c1 hB1; refine Om rfl ?_; refine Gt (B := B1) (xs := [] ++ l.map sv) (ys := m.map sv) (m := 0 + l.length) (c := c1) Av Ac rfl rfl hB1 (fun _ h => h) Ae h'.reads h'.none (Cn m) Ad Aa Ad .free rfl ?_; intro B2 c2 hB2; rw [List.nil_append, ← List.map_append] at hB2 ⊢; refine Oa rfl (Ab ?_)
 refine Gk hB2 Ae Io (fun s hs => by rcases List.mem_append.1 hs with hs | hs; exact h.each s hs; exact h'.each s hs) ?_; intro I2 oc c3 hle hv hst; refine Am (.tmp rfl .nil) ?_
 exact ⟨I2, L, hle, fun _ h => h, oc, c3, hv, hst, rfl⟩

def EV (b : Nat) (oa : Option Addr) (l : List UInt8) (c p : Nat) (L : Bj) : Cv := fun v I' L' => ∃ o1 n1 c1 o2 n2 c2, v = .tuple #[.slice o1 (List.length n1) c1, .slice o2 (List.length n2) c2] ∧ Strs I' o1 n1 c1 ∧ Strs I' o2 n2 c2 ∧ n1.length ≤ 16 ∧ n2.length ≤ 16 ∧ (∀ s ∈ n1, s.length ≤ 16) ∧ (∀ s ∈ n2, s.length ≤ 16) ∧ L' = rd b oa l c (p + 1) :: L
theorem P2 {I : Heap} {b : Nat} {l : List As} {e : TypeId} (hlen : l.length ≤ Bg) (hs : ∀ s ∈ l, s.length ≤ Bg) : Strs (I.set b (.cells (l.map sv).toArray e (0, 0))) (some ⟨b, 0, none⟩) l l.length :=
 ⟨fun y hy => by cases hy; simpa using A9 (xs := l.map sv) (ys := []), by simp, Nat.le_refl _, hlen, hs⟩
theorem Eb {P : Program} {f : FuncId} {n : Nat} {I₀ : Heap} {Q : Cv} {k : List Item} {E : Hg} {I : Heap} {L : Bj} {ops : Array Oper} {ol : List Oper} {e : TypeId} {b : Nat} (l : List As) (hlen : l.length ≤ Bg) (hs : ∀ s ∈ l, s.length ≤ Bg)
  (h : ∀ I', HLe I I' → Strs I' (some ⟨b, 0, none⟩) l l.length → A8 P f n I₀ Q ops ol k E I' L) : A8 P f n I₀ Q ops ol k E I ((b, .cells (l.map sv).toArray e (0, 0)) :: L) :=
 Gu fun hle => h _ hle (P2 hlen hs)
def DE (L : Bj) : Cv := fun v I' L' => ∃ o1 n1 c1 o2 n2 c2, v = .tuple #[.slice o1 (List.length n1) c1, .slice o2 (List.length n2) c2] ∧ Strs I' o1 n1 c1 ∧ Strs I' o2 n2 c2 ∧ n1.length ≤ 16 ∧ n2.length ≤ 16 ∧ (∀ s ∈ n1, s.length ≤ 16) ∧ (∀ s ∈ n2, s.length ≤ 16) ∧ L = L'
def DL (L : Bj) : Cv := fun v I' L' => ∃ o1 n1 c1 o2 n2 c2 s, v = .tuple #[.slice o1 (List.length n1) c1, .slice o2 (List.length n2) c2, .string (str s)] ∧ Strs I' o1 n1 c1 ∧ Strs I' o2 n2 c2 ∧ n1.length ≤ 16 ∧ n2.length ≤ 16 ∧ (∀ s ∈ n1, s.length ≤ 16) ∧ (∀ s ∈ n2, s.length ≤ 16) ∧ s.length ≤ 16 ∧ L = L'
def TOm (r : Except Ex Ty) (ok : Bool) (u w : Tree) : Prop := match r with
 | .ok t => ok = true ∧ u = t.tree
 | .error x => ok = false ∧ w = x.tree
def TO (r : Except Ex Ty) (L : Bj) : Cv := fun v I' L' => ∃ u cs w ds ok, v = .tuple #[.agg cs.toArray, .agg ds.toArray, .bool ok] ∧ Rep I' u cs ∧ Rep I' w ds ∧ L = L' ∧ TOm r ok u w
structure TR where
 J : Heap
 b1 : Nat
 b2 : Nat
 u : Tree
 w : Tree
 o1 : Option Addr
 k1 : Nat
 o2 : Option Addr
 k2 : Nat
 ok : Bool
structure TG where
 J : Heap
 ts : List Ty
 xs : List Value
 B : Kg
 c : Nat
def TG.is (e : Ex) (l : List As) (m : List Ty) (J0 : Heap) (x : TG) : Prop := HLe J0 x.J ∧ x.ts.length ≤ e.sub.length ∧ RepL x.J (x.ts.map Ty.tree) x.xs ∧ Dd 2 x.ts.length x.c x.xs x.B ∧ smallL x.ts ∧
 e.runs l m = e.run l m (e.sub.drop x.ts.length) ((D2 e.tree).drop x.ts.length) x.ts

def Hs (sg s : As) : Option (Ty × Ty) := match M0 s with
 | some (.fn a b) => if sg = [62] then some (a, b) else none
 | some (.pr a b) => if sg = [42] then some (a, b) else none
 | _ => none
def t1 (o : Option (Ty × Ty)) : As := (o.map fun p => p.1.tree.text).getD []
def t2 (o : Option (Ty × Ty)) : As := (o.map fun p => p.2.tree.text).getD []
theorem Tw {sg s : As} (h : M0 s = none) : Hs sg s = none := by unfold Hs; rw [h]
theorem Tx {sg s : As} {a : Ty} (h : M0 s = some a) : (a.tree.atom = [] ∧ a.tree.head = sg → ∃ x y, Hs sg s = some (x, y) ∧ a.tree.parts.length = 3 ∧ a.tree.pt 1 = x.tree ∧ a.tree.pt 2 = y.tree) ∧ (¬ (a.tree.atom = [] ∧ a.tree.head = sg) → Hs sg s = none) := by
 unfold Hs
 rw [h]
 cases a with
 | i => exact ⟨fun h => absurd h.1 Ad, fun _ => rfl⟩
 | fn x y =>
  refine ⟨fun h => ⟨x, y, if_pos (show sg = [62] from h.2.symm), rfl, rfl, rfl⟩, fun h => if_neg fun e => h ⟨rfl, e.symm⟩⟩
 | pr x y =>
  refine ⟨fun h => ⟨x, y, if_pos (show sg = [42] from h.2.symm), rfl, rfl, rfl⟩, fun h => if_neg fun e => h ⟨rfl, e.symm⟩⟩
def Ahe (f : Bool) (a b : Ty) : Ty := if f then .fn a b else .pr a b
def Ah8 (f : Bool) (a b : As) : Option As := match M0 a, M0 b with
 | some x, some y => if (Ahe f x y).size ≤ 16 then some (Ahe f x y).tree.text else none
 | _, _ => none
def sgn (f : Bool) : As := if f then [62] else [42]
def Aio (h k0 k1 k2 : As) : As :=
 if h = Gy ∧ k0 = [105] ∧ k1 = k2 then k1
 else if h = E1 ∧ (Hs [62] k0).isSome = true ∧ t1 (Hs [62] k0) = k1 then t2 (Hs [62] k0)
 else if h = Et then (Ah8 false k0 k1).getD []
 else if h = Gw ∧ (Hs [42] k0).isSome = true then t1 (Hs [42] k0)
 else if h = Gx ∧ (Hs [42] k0).isSome = true then t2 (Hs [42] k0)
 else if (h = [43] ∨ h = [45] ∨ h = [42]) ∧ k0 = [105] ∧ k1 = [105] then [105]
 else []
def Ail (h : As) (n : Nat) : Prop := (∃ o : B5, h = o.txt ∧ n = 2) ∨ (h = Gy ∧ n = 3) ∨ (∃ o : U2, h = o.txt ∧ n = 1)
abbrev tx (m : List Ty) : List As := m.map fun t => t.tree.text
def ST (s : As) (L : Bj) : Cv := fun v I' L' => v = .string (str s) ∧ L = L'
def TW (o : Option (Ty × Ty)) (L : Bj) : Cv := fun v I' L' => v = .tuple #[.string (str (t1 o)), .string (str (t2 o)), .bool o.isSome] ∧ L = L'
theorem Vj {s : As} {t : Tree} {ok : Bool} (hpf : match D4 s with | some t0 => ok = true ∧ t = t0 | none => ok = false) : (ok = true → t.typed = true → ∃ a, M0 s = some a ∧ t = a.tree ∧ a.size ≤ 16) ∧ (ok = false ∨ t.typed = false → M0 s = none) := by
 have e : J7 s = bif ok && t.typed then some t else none := by
  unfold J7
  cases hp : D4 s with
  | none => rw [hp] at hpf; simp [hpf]
  | some t0 => rw [hp] at hpf; obtain ⟨rfl, rfl⟩ := hpf; simp only [Bool.true_and]
 constructor
 ·intro h1 h2; rw [h1, h2] at e; obtain ⟨a, h3, h4, h5, _⟩ := Aau e
  exact ⟨a, h3, h4, h5⟩
 ·intro h
  have : J7 s = none := by rw [e]; rcases h with h | h <;> simp [h]
  unfold M0; rw [this]; rfl
theorem Aak (s sg : As) (hs : s.length ≤ Bg) (I : Heap) (L : Bj) : Fun Tryz.prog 207 [.string (str s), .string (str sg)] I L (TW (Hs sg s) L) := by
 refine Ao Ae ?_; refine Se rfl ?_
 iterate 3 refine Oa rfl ?_
 refine Ab (Se rfl (Om rfl ?_)); refine Ca rfl (Uy s hs _ _) ?_; rintro _ J _ e1 ⟨t, cs, ok, rfl, hrep, rfl, hpf⟩; obtain ⟨oa, c, oaf, cf, rfl, hf⟩ := hrep.at'
 have hty := Vj hpf
 have hn := hf.nil
 refine Om rfl (Oe rfl rfl (Oe rfl rfl ?_)); refine A1 .free rfl ?_; intro b7; refine By rfl rfl rfl rfl .free ?_; refine Oa rfl (Ab (Ah (Se rfl (Om rfl ?_)))); refine Ei rfl .free rfl ?_; refine Om rfl ?_
 apply G4 16 20 rfl
 ·intro g2_3 hk
  try simp only [nb] at g2_3
  have hp := Ga (Iy hpf g2_3)
  refine Az rfl (.met rfl rfl) rfl ?_; refine Cx rfl (.met rfl rfl) rfl (Nx hf.rep hp.1 (Tree.size_maxN hp.2.1) _) ?_; rintro _ _ _ _ ⟨rfl, rfl, rfl⟩; refine Ei rfl (.met rfl rfl) rfl ?_; refine Of rfl rfl ?_
  exact Bb 3 rfl rfl hk
 ·intro _ hk; refine Br 3 rfl ?_; refine Ot rfl rfl ?_
  exact Bb 3 rfl rfl hk
 refine Om rfl ?_
 apply G4 21 25 rfl
 ·intro g2_8 hk
  try simp only [nb] at g2_8
  refine Cj rfl (.met rfl rfl) rfl ?_; refine Bv rfl (.met rfl rfl) rfl ?_; refine F9 rfl rfl rfl (.met rfl rfl) rfl ?_; refine Of rfl rfl ?_
  exact Bb 3 rfl rfl hk
 ·intro _ hk; refine Br 3 rfl ?_; refine Ot rfl rfl ?_
  exact Bb 3 rfl rfl hk
 refine Om rfl ?_
 apply G4 26 34 rfl
 ·intro g2_13 hk
  try simp only [nb] at g2_13
  have hp := Ga (Iy hpf g2_13.1.1)
  have hne := (Mg hp.1 (by simpa using g2_13.2)).2
  refine Cj rfl (.met rfl rfl) rfl ?_; refine Bv rfl (.met rfl rfl) rfl ?_
  first | refine Bs rfl rfl 0 rfl (.met rfl rfl) rfl ?_ | refine Bt rfl rfl 0 rfl (.met rfl rfl) rfl ?_
  refine Bh rfl (.met rfl rfl) rfl ?_; refine Gj rfl (.met rfl rfl) rfl ?_; refine Ow rfl ?_; refine F9 rfl rfl rfl (.met rfl rfl) rfl ?_; refine Of rfl rfl ?_
  exact Bb 7 rfl rfl hk
 ·intro _ hk; refine Br 7 rfl ?_; refine Ot rfl rfl ?_
  exact Bb 7 rfl rfl hk
 refine Ab ?_; refine A6 rfl ?_ ?_
 ·intro c0
  try simp only [nb] at c0
  refine Se rfl ?_
  iterate 3 refine Oa rfl ?_
  refine Ab ?_; refine Am (.tmp rfl (.tmp rfl (.tmp rfl .nil))) ?_; refine ⟨J, L, e1, Cl, ?_, rfl⟩
  have hz : Hs sg s = none := by
   by_cases h1 : ok = true
   ·by_cases h2 : t.typed = true
    ·obtain ⟨a, h3, rfl, h4⟩ := hty.1 h1 h2; refine (Tx h3).2 ?_; rintro ⟨h5, h6⟩
     rcases c0 with ((h | h) | h) | h
     ·rw [h1] at h; cases h
     ·rw [h2] at h; cases h
     ·exact h h5
     ·have hp := Ga (Iy hpf h1)
      exact h ((I7 (Mg hp.1 h5).2).symm.trans h6)
    ·exact Tw (hty.2 (.inr (by simpa using h2)))
   ·exact Tw (hty.2 (.inl (by simpa using h1)))
  rw [hz]; rfl
 intro c0
 try simp only [nb] at c0
 obtain ⟨⟨⟨h1, h2⟩, h3⟩, h4⟩ := c0
 have hp := Ga (Iy hpf h1)
 have hne := (Mg hp.1 (by simpa using h3)).2
 obtain ⟨a, h5, rfl, h6⟩ := hty.1 h1 h2; obtain ⟨x, y, h7, h8, h9, h10⟩ := (Tx h5).1 ⟨by simpa using h3, (I7 hne).trans (by simpa using h4)⟩
 have hx := Tree.pt_good hp.1 1 Aa
 have hy := Tree.pt_good hp.1 2 Aa
 have hl1 := a.tree.pt_len 1 Aa
 have hl2 := a.tree.pt_len 2 Aa
 refine Ak (Ah ?_); refine Fh 13 rfl rfl ?_; refine Da 0 rfl (Aj rfl) ?_; refine Dt 1 [13] rfl (Bo rfl) ?_
 first | refine Da 2 rfl (Bc rfl rfl 1 rfl) ?_ | refine Da 2 rfl (Bd rfl rfl 1 rfl) ?_
 refine Dt 3 [13] rfl (C5 rfl) ?_; refine Da 5 rfl (Aj rfl) ?_; refine Dt 6 [13] rfl (Bo rfl) ?_
 first | refine Da 7 rfl (Bc rfl rfl 2 rfl) ?_ | refine Da 7 rfl (Bd rfl rfl 2 rfl) ?_
 refine Dt 8 [13] rfl (C5 rfl) ?_; refine Dc 4 rfl rfl (Kq _ (Nat.lt_succ_self _) (hf.rp 1 Aa) hx Aa _) ?_; rintro _ _ _ _ ⟨rfl, rfl, rfl⟩; refine Hx ?_; refine Dc 9 rfl rfl (Kq _ (Nat.lt_succ_self _) (hf.rp 2 Aa) hy Aa _) ?_; rintro _ _ _ _ ⟨rfl, rfl, rfl⟩; refine Hx ?_; refine Da 10 rfl (Bk rfl) ?_; refine Da 11 rfl (Bk rfl) ?_; refine Da 12 rfl (Bk rfl) ?_; refine A5 Af ?_; refine Am (.tmp rfl (.tmp rfl (.tmp rfl .nil))) ?_
 exact ⟨J, L, e1, Cl, by rw [h7, h9, h10]; rfl, rfl⟩
theorem Abg (s : As) (hs : s.length ≤ Bg) (I : Heap) (L : Bj) : Fun Tryz.prog 197 [.string (str s)] I L (TW (Hs [62] s) L) := by
 refine Ao Ae ?_; refine Se rfl ?_
 iterate 3 refine Oa rfl ?_
 refine Ab (Se rfl (Om rfl ?_)); refine Ca rfl (Aak s [62] hs _ _) ?_; rintro _ J _ e1 ⟨rfl, rfl⟩
 iterate 3 refine Oe rfl rfl ?_
 iterate 3 refine Oa rfl ?_
 refine Ab ?_; refine Am (.tmp rfl (.tmp rfl (.tmp rfl .nil))) ?_
 exact ⟨J, L, e1, Cl, rfl, rfl⟩
theorem Zl (s : As) (hs : s.length ≤ Bg) (I : Heap) (L : Bj) : Fun Tryz.prog 196 [.string (str s)] I L (TW (Hs [42] s) L) := by
 refine Ao Ae ?_; refine Se rfl ?_
 iterate 3 refine Oa rfl ?_
 refine Ab (Se rfl (Om rfl ?_)); refine Ca rfl (Aak s [42] hs _ _) ?_; rintro _ J _ e1 ⟨rfl, rfl⟩
 iterate 3 refine Oe rfl rfl ?_
 iterate 3 refine Oa rfl ?_
 refine Ab ?_; refine Am (.tmp rfl (.tmp rfl (.tmp rfl .nil))) ?_
 exact ⟨J, L, e1, Cl, rfl, rfl⟩
theorem RStrs.mono {I I' : Heap} (hle : HLe I I') {L : Bj} {oa : Option Addr} {l : List As} (h : RStrs I L oa l) : RStrs I' L oa l := ⟨fun a ha => Tk hle (h.reads a ha), h.nil, h.len⟩
end Go.Proofs.YtmfagaajiakgoaaGreatDoor
