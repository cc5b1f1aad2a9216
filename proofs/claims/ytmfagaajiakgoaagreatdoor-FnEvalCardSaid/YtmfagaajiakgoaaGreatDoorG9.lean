/- The draws' reader: its picks are within bounds. No conditions. -/
import Derived.Test.YtmfagaajiakgoaaGreatDoorG8

namespace Go.Proofs.YtmfagaajiakgoaaGreatDoor
set_option maxRecDepth 100000
set_option linter.unusedVariables false
set_option linter.unusedSimpArgs false

theorem Bytes.take {I : Heap} {oa : Option Addr} {l : List UInt8} {c : Nat} (h : Bytes I oa l c) (m : Nat) (hm : m ≤ l.length) : Bytes I (if c = 0 then oa else oa.map (·.add (0 * 1))) (l.take m) (c - 0) := by
  have e : (if c = 0 then oa else oa.map (·.add (0 * 1))) = oa := by
    have : ∀ x : Addr, x.add (0 * 1) = x := fun x => by simp [Addr.add]
    cases oa <;> simp [this]
  rw [e]
  refine ⟨fun x hx => ?_, fun hx => by rw [h.nil hx]; simp, by have := h.cap; simp; omega, by have := h.len; simp; omega⟩
  rcases h.still x hx with h0 | ⟨cc, T, fr, hb, hs, hc⟩
  · exact .inl (by have : l = [] := by simpa using h0
                   simp [this])
  · refine .inr ⟨cc, T, fr, hb, hs, fun i hi => ?_⟩
    simp only [List.length_map, List.length_take] at hi
    rw [hc i (by simp; omega)]
    simp

def rd (b : Nat) (oa : Option Addr) (l : List UInt8) (c p : Nat) : Nat × Obj := (b, .cells [.slice oa l.length c, .int .i64 (p : Nat)].toArray 94 (0, 0))
def OP (L : Bm) : C2 := fun v I' L' => ∃ b oa l c, v = .pointer (some ⟨b, 0, none⟩) ∧ Bytes I' oa l c ∧ l.length ≤ 2000 ∧ L' = rd b oa l c 0 :: L
theorem Aa1      {I : Heap} {oa : Option Addr} {l : List UInt8} {c : Nat} (h : Bytes I oa l c) (L : Bm ) : Fun Tryz.prog 40 [.slice oa l.length c] I L (OP L) := by
  have hlen := h.len
  have hcap := h.cap
  refine Ap        (by simp) ?_
  refine Se rfl (Oa rfl (Aa     (Ah    (Se rfl (Om rfl (On rfl (Oc rfl rfl rfl (Aa     ?_))))))))
  refine Si rfl ?_ ?_
  · intro c0
    refine Al      rfl (Om rfl ?_)
    refine Km            rfl rfl rfl 0 2000 rfl rfl (by omega) .free rfl ?_
    refine Oa rfl (Aa     (Se rfl (Om rfl ?_)))
    refine B6       rfl rfl rfl .free rfl ?_
    refine Cg    rfl rfl .free rfl ?_
    intro b10
    refine Oa rfl (Aa     (Ak    (.tmp rfl .nil) ?_))
    first
      | exact ⟨I, _, .refl _, fun _ h => h, _, oa, l, c, rfl, h, by omega, rfl⟩
      | (have h2 := h.take 2000 (by omega)
         have e : (l.take 2000).length = 2000 - 0 := by simp; omega
         exact ⟨I, _, .refl _, fun _ h => h, _, _, l.take 2000, c - 0, rfl, h2, by omega, by unfold rd; rw [e]; rfl⟩)
  intro c0
  refine Aj     (Se rfl (Om rfl ?_))
  refine B6       rfl rfl rfl .free rfl ?_
  refine Cg    rfl rfl .free rfl ?_
  intro b10
  refine Oa rfl (Aa     (Ak    (.tmp rfl .nil) ?_))
  first
    | exact ⟨I, _, .refl _, fun _ h => h, _, oa, l, c, rfl, h, by omega, rfl⟩
    | (have h2 := h.take 2000 (by omega)
       have e : (l.take 2000).length = 2000 - 0 := by simp; omega
       exact ⟨I, _, .refl _, fun _ h => h, _, _, l.take 2000, c - 0, rfl, h2, by omega, by unfold rd; rw [e]; rfl⟩)

def PK (b : Nat) (oa : Option Addr) (l : List UInt8) (c p n : Nat) (I : Heap) (L : Bm) : C2 := fun v I' L' => ∃ r : Nat, v = .int .i64 (r : Nat) ∧ I = I' ∧ L' = rd b oa l c (p + 1) :: L ∧ (r < n ∨ r = 0)
theorem C0 {I : Heap} {oa : Option Addr} {l : List UInt8} {c : Nat} (h : Bytes I oa l c) (hl : l.length ≤ 2000) (b p n : Nat) (hp : p ≤ 1099511627776) (hn : n ≤ 4294967296) (L : Bm) :
  Fun Tryz.prog 50 [.pointer (some ⟨b, 0, none⟩), .int .i64 (n : Nat)] I (rd b oa l c p :: L) (PK b oa l c p n I L) := by
 unfold rd
 refine Ap Af ?_; refine Se rfl (Oa rfl (Aa (Se rfl (Om rfl (Om rfl ?_))))); refine Az rfl .free rfl ?_
 first | refine Oh rfl ?_ | refine Oj rfl ?_
 refine Cz rfl .free rfl ?_; refine Or rfl rfl rfl ?_; refine Az rfl .free rfl ?_
 first | refine Oh rfl ?_ | refine Oj rfl ?_
 refine Bu rfl rfl rfl rfl .free ?_; refine Aa (Ah (Se rfl (Om rfl (Oc rfl rfl rfl (Om rfl ?_)))))
 first | refine Gu rfl rfl ?_ ?_ | refine E8 rfl rfl ?_ ?_ | refine Lv rfl rfl ?_ ?_
 ·intro g2_3
  iterate 6 refine Cl rfl rfl rfl ?_
  refine Ot rfl rfl (Aa ?_); refine Bo rfl ?_; refine Se rfl (Oa rfl (Aa (Ak (.tmp rfl .nil) ?_)))
  exact ⟨I, _, .refl _, fun _ h => h, 0, rfl, rfl, rfl, .inr rfl⟩
 intro g2_3; refine Ow rfl ?_; refine Az rfl (.met rfl rfl) rfl ?_
 first | refine A2 rfl (.met rfl rfl) rfl ?_ | refine Bj rfl (.met rfl rfl) rfl ?_
 refine Cz rfl (.met rfl rfl) rfl ?_; refine Kb rfl (.met rfl rfl) rfl ?_; refine Dq rfl rfl rfl (.met rfl rfl) rfl ?_; refine Of rfl rfl (Aa ?_); refine Si rfl ?_ ?_
 ·intro c0; refine Se rfl (Oa rfl (Aa (Ak (.tmp rfl .nil) ?_)))
  exact ⟨I, _, .refl _, fun _ h => h, 0, rfl, rfl, rfl, .inr rfl⟩
 intro c0; refine Aj (Se rfl (Om rfl ?_)); refine Az rfl .free rfl ?_
 first | refine Oh rfl ?_ | refine Oj rfl ?_
 refine Cz rfl .free rfl ?_; refine Or rfl rfl rfl ?_; refine Oa rfl (Aa (Ah (Ah ?_))); refine Lk (t := 5) (v' := .int .i64 (p : Nat)) rfl Eg ?_; refine Al rfl (Om rfl (Om rfl ?_)); refine Az rfl .free rfl ?_
 first | refine Oh rfl ?_ | refine Oj rfl ?_
 refine Cz rfl .free rfl ?_; refine On rfl (Oc rfl rfl rfl (Aa ?_)); refine Si rfl ?_ ?_
 ·intro c1; obtain ⟨x, hx, hst⟩ := h.at p Ab; refine Se rfl (Om rfl ?_); refine Az rfl .free rfl ?_
  first | refine Oh rfl ?_ | refine Oj rfl ?_
  refine Cz rfl .free rfl ?_; refine Om rfl ?_; refine Cv rfl rfl _ rfl B7 Dv .free rfl ?_; refine Cz rfl .free rfl ?_; refine Mj rfl (by first | exact UInt8.toNat_lt _ | omega) .free rfl ?_; refine Om rfl ?_; refine Adg rfl rfl Ab .free rfl ?_; refine Oa rfl (Aa (Ak (.tmp rfl .nil) ?_))
  exact ⟨I, _, .refl _, fun _ h => h, _, rfl, rfl, rfl, .inl (Nat.mod_lt _ Ab)⟩
 intro c1
 have hpos : 0 < l.length := by omega
 obtain ⟨r1, hr1, hr1l⟩ : ∃ r, r = p % l.length ∧ r < l.length := ⟨_, rfl, Nat.mod_lt _ hpos⟩; obtain ⟨r2, hr2, hr2l⟩ : ∃ r, r = (p * 7 + 3) % l.length ∧ r < l.length := ⟨_, rfl, Nat.mod_lt _ hpos⟩; obtain ⟨q, hq, hqp⟩ : ∃ q, q = p / l.length ∧ q ≤ p := ⟨_, rfl, Nat.div_le_self _ _⟩; obtain ⟨x1, hx1, u1, hu1, hst1⟩ : ∃ x, oa = some x ∧ ∃ u : Nat, u < 256 ∧ Still I (x.add (r1 * 1)) [.int .u8 (u : Nat)] := by
  obtain ⟨x, hx, hst⟩ := h.at r1 hr1l
  exact ⟨x, hx, _, UInt8.toNat_lt _, hst⟩
 obtain ⟨u2, hu2, hst2⟩ : ∃ u : Nat, u < 256 ∧ Still I (x1.add (r2 * 1)) [.int .u8 (u : Nat)] := by
  obtain ⟨x, hx, hst⟩ := h.at r2 hr2l; obtain rfl : x1 = x := by rw [hx1] at hx; exact Option.some.inj hx
  exact ⟨_, UInt8.toNat_lt _, hst⟩
 clear h
 refine Aj (Ah ?_); refine D6 46 rfl rfl ?_; refine Da 0 rfl (Am rfl) ?_; refine Da 1 rfl (D4 rfl) ?_
 first | refine Da 2 rfl (Ao rfl) ?_ | refine Da 2 rfl (Bf rfl) ?_
 refine Dt 3 [46] rfl (Pn rfl) ?_; refine Da 4 rfl (Am rfl) ?_; refine Da 5 rfl (Am rfl) ?_; refine Da 6 rfl (D4 rfl) ?_
 first | refine Da 7 rfl (Ao rfl) ?_ | refine Da 7 rfl (Bf rfl) ?_
 refine Dt 8 [46] rfl (Pn rfl) ?_; refine Da 9 rfl (Gb rfl) ?_; refine Da 10 rfl (Yg rfl rfl Ab) ?_; refine H5 (t := 57) rfl (v' := .int .i64 (r1 : Nat)) (by rw [hr1]) ?_; refine Ge 11 rfl Ac rfl (.inr At) (H3 rfl rfl _ rfl B7 Dv) .free rfl ?_; refine Dt 12 [46] rfl (Pn rfl) ?_; refine Ge 13 rfl Ac rfl (.inr At) (Pm rfl (by first | exact UInt8.toNat_lt _ | omega)) .free rfl ?_; refine Da 14 rfl (G5 rfl rfl rfl Ab) ?_; refine Da 15 rfl (Am rfl) ?_; refine Da 16 rfl (D4 rfl) ?_
 first | refine Da 17 rfl (Ao rfl) ?_ | refine Da 17 rfl (Bf rfl) ?_
 refine Dt 18 [46] rfl (Pn rfl) ?_; refine Da 19 rfl (Am rfl) ?_; refine Da 20 rfl (G5 rfl rfl rfl Ab) ?_; refine Da 21 rfl (G5 rfl rfl rfl Ab) ?_; refine Da 22 rfl (Am rfl) ?_; refine Da 23 rfl (D4 rfl) ?_
 first | refine Da 24 rfl (Ao rfl) ?_ | refine Da 24 rfl (Bf rfl) ?_
 refine Dt 25 [46] rfl (Pn rfl) ?_; refine Da 26 rfl (Gb rfl) ?_; refine H5 (t := 68) rfl (v' := .int .i64 ((p * 7 + 3 : Nat))) (by congr 1) ?_; refine Da 27 rfl (Yg rfl rfl Ab) ?_; refine H5 (t := 74) rfl (v' := .int .i64 (r2 : Nat)) (by rw [hr2]) ?_; refine Ge 28 rfl Ac rfl (.inr At) (H3 rfl rfl _ rfl B7 Dv) .free rfl ?_; refine Dt 29 [46] rfl (Pn rfl) ?_; refine Ge 30 rfl Ac rfl (.inr At) (Pm rfl (by first | exact UInt8.toNat_lt _ | omega)) .free rfl ?_; refine Da 31 rfl (G5 rfl rfl rfl Ab) ?_; refine Da 32 rfl (G5 rfl rfl rfl Ab) ?_; refine Da 33 rfl (Am rfl) ?_
 refine Da 34 rfl (G5 rfl rfl rfl Ab) ?_; refine Da 35 rfl (G5 rfl rfl rfl Ab) ?_; refine Da 36 rfl (Am rfl) ?_; refine Da 37 rfl (Am rfl) ?_; refine Da 38 rfl (D4 rfl) ?_
 first | refine Da 39 rfl (Ao rfl) ?_ | refine Da 39 rfl (Bf rfl) ?_
 refine Dt 40 [46] rfl (Pn rfl) ?_; refine Da 41 rfl (Gb rfl) ?_; refine Da 42 rfl (Ab7 rfl rfl Ab Ab) ?_; refine H5 (t := 89) rfl (v' := .int .i64 (q : Nat)) (by rw [hq]) ?_; refine Da 43 rfl (G5 rfl rfl rfl Ab) ?_; refine Da 44 rfl (G5 rfl rfl rfl Ab) ?_; refine Da 45 rfl (A5 rfl) ?_; refine Aw Ac ?_; refine Ah ?_; obtain ⟨m, hm, hm2⟩ : ∃ m : Nat, (m : Int) = ↑u1 * 131 + ↑u2 * 1117 + ↑p * 29 + ↑q * 53 ∧ m ≤ 1152921504606846976 := ⟨u1 * 131 + u2 * 1117 + p * 29 + q * 53, by omega, by omega⟩; refine Lk (t := 6) (v' := .int .i64 (m : Nat)) rfl Eg ?_; refine Al rfl (Om rfl (Om rfl ?_))
 refine Abr (b := 64) rfl rfl Ab Ab .free rfl ?_; refine Aej rfl rfl Ab Ab .free rfl ?_; refine Oa rfl (Aa (Se rfl (Om rfl (Om rfl ?_)))); refine Adg rfl rfl Ab .free rfl ?_; refine Oa rfl (Aa (Ak (.tmp rfl .nil) ?_))
 exact ⟨I, _, .refl _, fun _ h => h, _, rfl, rfl, rfl, .inl (Nat.mod_lt _ Ab)⟩
def OF (b : Nat) (oa : Option Addr) (l : List UInt8) (c p : Nat) (ts : List Au) (I : Heap) (L : Bm) : C2 := fun v I' L' => ∃ s, v = .string (str s) ∧ s ∈ ts ∧ I = I' ∧ L' = rd b oa l c (p + 1) :: L
theorem Ez {I : Heap} {oa : Option Addr} {l : List UInt8} {c : Nat} (h : Bytes I oa l c) (hl : l.length ≤ 2000) (b p : Nat) (hp : p ≤ 1099511627776) {ob : Option Addr} {ts : List Au} {c' : Nat} (hts : Strs I ob ts c') (hne : ts ≠ []) (L : Bm) :
  Fun Tryz.prog 80 [.pointer (some ⟨b, 0, none⟩), .slice ob ts.length c'] I (rd b oa l c p :: L) (OF b oa l c p ts I L) := by
 have hlen := hts.len
 unfold Be at hlen
 have hpos := List.length_pos_iff.2 hne
 refine Ap Af ?_; refine Se rfl (Oa rfl (Aa (Se rfl ?_)))
 iterate 3 refine Om rfl ?_
 refine On rfl ?_; refine Ca rfl (C0 h hl b p ts.length hp hlen L) ?_; rintro _ _ _ _ ⟨r, rfl, rfl, rfl, hr⟩; obtain ⟨x, hx, hst⟩ := hts.at r Ab; refine Cv rfl rfl _ rfl B7 Dv .free rfl ?_; refine Cz rfl .free rfl ?_; refine Oa rfl (Aa (Ak (.tmp rfl .nil) ?_))
 exact ⟨I, _, .refl _, fun _ h => h, _, rfl, List.getElem_mem _, rfl, rfl⟩

def LS1 (l : List Au) (L : Bm) : C2 := fun v I' L' => ∃ oa c, v = .slice oa (List.length l) c ∧ Strs I' oa l c ∧ L = L'
theorem Io {I : Heap} {oa ob : Option Addr} {l m : List Au} {c c' : Nat} (h : Strs I oa l c) (h' : Strs I ob m c') (hlm : l.length + m.length ≤ Be) (L : Bm) :
  Fun Tryz.prog 148 [.slice oa l.length c, .slice ob m.length c'] I L (LS1 (l ++ m) L) := by
 unfold Be at hlm
 refine Ap Af ?_; refine Se rfl (Oa rfl (Aa (Se rfl ?_))); refine El .free rfl ?_; intro b5; refine Om rfl ?_; refine Kx (B := some (b5, [])) (xs := []) (ys := l.map sv) (m := 0) (c := 0) Bl Ae rfl rfl ⟨rfl, Nat.le_refl _, rfl⟩ (fun _ h => h) Af h.reads h.none (Eb l) Ad Ab Ad .free rfl ?_; intro B1 c1 hB1; refine Om rfl ?_; refine Kx (B := B1) (xs := [] ++ l.map sv) (ys := m.map sv) (m := 0 + l.length) (c := c1) Bl Ae rfl rfl hB1 (fun _ h => h) Af h'.reads h'.none (Eb m) Ad Ab Ad .free rfl ?_; intro B2 c2 hB2; rw [List.nil_append, ← List.map_append] at hB2 ⊢; refine Oa rfl (Aa ?_)
 refine G4 hB2 Af G0 (fun s hs => by rcases List.mem_append.1 hs with hs | hs; exact h.each s hs; exact h'.each s hs) ?_; intro I2 oc c3 hle hv hst; refine Ak (.tmp rfl .nil) ?_
 exact ⟨I2, L, hle, fun _ h => h, oc, c3, hv, hst, rfl⟩

def EV (b : Nat) (oa : Option Addr) (l : List UInt8) (c p : Nat) (L : Bm) : C2 := fun v I' L' => ∃ o1 n1 c1 o2 n2 c2, v = .tuple #[.slice o1 (List.length n1) c1, .slice o2 (List.length n2) c2] ∧ Strs I' o1 n1 c1 ∧ Strs I' o2 n2 c2 ∧ n1.length ≤ 16 ∧ n2.length ≤ 16 ∧ (∀ s ∈ n1, s.length ≤ 16) ∧ (∀ s ∈ n2, s.length ≤ 16) ∧ L' = rd b oa l c (p + 1) :: L
theorem N9 {I : Heap} {b : Nat} {l : List Au} {e : TypeId} (hlen : l.length ≤ Be) (hs : ∀ s ∈ l, s.length ≤ Be) : Strs (I.set b (.cells (l.map sv).toArray e (0, 0))) (some ⟨b, 0, none⟩) l l.length :=
 ⟨fun y hy => by cases hy; simpa using Bi (xs := l.map sv) (ys := []), by simp, Nat.le_refl _, hlen, hs⟩
theorem Ei {P : Program} {f : FuncId} {n : Nat} {I₀ : Heap} {Q : C2} {k : List Item} {E : He} {I : Heap} {L : Bm} {ops : Array Oper} {ol : List Oper} {e : TypeId} {b : Nat} (l : List Au) (hlen : l.length ≤ Be) (hs : ∀ s ∈ l, s.length ≤ Be)
  (h : ∀ I', HLe I I' → Strs I' (some ⟨b, 0, none⟩) l l.length → A6 P f n I₀ Q ops ol k E I' L) : A6 P f n I₀ Q ops ol k E I ((b, .cells (l.map sv).toArray e (0, 0)) :: L) :=
 Abo fun hle => h _ hle (N9 hlen hs)
def DE (L : Bm) : C2 := fun v I' L' => ∃ o1 n1 c1 o2 n2 c2, v = .tuple #[.slice o1 (List.length n1) c1, .slice o2 (List.length n2) c2] ∧ Strs I' o1 n1 c1 ∧ Strs I' o2 n2 c2 ∧ n1.length ≤ 16 ∧ n2.length ≤ 16 ∧ (∀ s ∈ n1, s.length ≤ 16) ∧ (∀ s ∈ n2, s.length ≤ 16) ∧ L = L'
def DL (L : Bm) : C2 := fun v I' L' => ∃ o1 n1 c1 o2 n2 c2 s, v = .tuple #[.slice o1 (List.length n1) c1, .slice o2 (List.length n2) c2, .string (str s)] ∧ Strs I' o1 n1 c1 ∧ Strs I' o2 n2 c2 ∧ n1.length ≤ 16 ∧ n2.length ≤ 16 ∧ (∀ s ∈ n1, s.length ≤ 16) ∧ (∀ s ∈ n2, s.length ≤ 16) ∧ s.length ≤ 16 ∧ L = L'
def TOm (r : Except Ex Ty) (ok : Bool) (u w : Tree) : Prop := match r with
 | .ok t => ok = true ∧ u = t.tree
 | .error x => ok = false ∧ w = x.tree
def TO (r : Except Ex Ty) (L : Bm) : C2 := fun v I' L' => ∃ u cs w ds ok, v = .tuple #[.agg cs.toArray, .agg ds.toArray, .bool ok] ∧ Rep I' u cs ∧ Rep I' w ds ∧ L = L' ∧ TOm r ok u w
structure TR where
 J : Heap
 b1 : Nat
 b2 : Nat
 u : Tree
 w : Tree
 o1 : Option Addr
 k1 : Nat
 o2 : Option Addr
 k2 : Nat
 ok : Bool
structure TG where
 J : Heap
 ts : List Ty
 xs : List Value
 B : K1
 c : Nat
def TG.is (e : Ex) (l : List Au) (m : List Ty) (J0 : Heap) (x : TG) : Prop := HLe J0 x.J ∧ x.ts.length ≤ e.sub.length ∧ RepL x.J (x.ts.map Ty.tree) x.xs ∧ E6 2 x.ts.length x.c x.xs x.B ∧ smallL x.ts ∧
 e.runs l m = e.run l m (e.sub.drop x.ts.length) ((Dk e.tree).drop x.ts.length) x.ts

def Gy (sg s : Au) : Option (Ty × Ty) := match Lj s with
 | some (.fn a b) => if sg = [62] then some (a, b) else none
 | some (.pr a b) => if sg = [42] then some (a, b) else none
 | _ => none
def t1 (o : Option (Ty × Ty)) : Au := (o.map fun p => p.1.tree.text).getD []
def t2 (o : Option (Ty × Ty)) : Au := (o.map fun p => p.2.tree.text).getD []
theorem Rh {sg s : Au} (h : Lj s = none) : Gy sg s = none := by unfold Gy; rw [h]
theorem Ri {sg s : Au} {a : Ty} (h : Lj s = some a) : (a.tree.atom = [] ∧ a.tree.head = sg → ∃ x y, Gy sg s = some (x, y) ∧ a.tree.parts.length = 3 ∧ a.tree.pt 1 = x.tree ∧ a.tree.pt 2 = y.tree) ∧ (¬ (a.tree.atom = [] ∧ a.tree.head = sg) → Gy sg s = none) := by
 unfold Gy
 rw [h]
 cases a with
 | i => exact ⟨fun h => absurd h.1 Ad, fun _ => rfl⟩
 | fn x y =>
  refine ⟨fun h => ⟨x, y, if_pos (show sg = [62] from h.2.symm), rfl, rfl, rfl⟩, fun h => if_neg fun e => h ⟨rfl, e.symm⟩⟩
 | pr x y =>
  refine ⟨fun h => ⟨x, y, if_pos (show sg = [42] from h.2.symm), rfl, rfl, rfl⟩, fun h => if_neg fun e => h ⟨rfl, e.symm⟩⟩
def Aeg (f : Bool) (a b : Ty) : Ty := if f then .fn a b else .pr a b
def Ae9 (f : Bool) (a b : Au) : Option Au := match Lj a, Lj b with
 | some x, some y => if (Aeg f x y).size ≤ 16 then some (Aeg f x y).tree.text else none
 | _, _ => none
def sgn (f : Bool) : Au := if f then [62] else [42]
def Afm (h k0 k1 k2 : Au) : Au :=
 if h = Gs ∧ k0 = [105] ∧ k1 = k2 then k1
 else if h = Ek ∧ (Gy [62] k0).isSome = true ∧ t1 (Gy [62] k0) = k1 then t2 (Gy [62] k0)
 else if h = Do then (Ae9 false k0 k1).getD []
 else if h = Fu ∧ (Gy [42] k0).isSome = true then t1 (Gy [42] k0)
 else if h = Fv ∧ (Gy [42] k0).isSome = true then t2 (Gy [42] k0)
 else if (h = [43] ∨ h = [45] ∨ h = [42]) ∧ k0 = [105] ∧ k1 = [105] then [105]
 else []
def Afj (h : Au) (n : Nat) : Prop := (∃ o : B5, h = o.txt ∧ n = 2) ∨ (h = Gs ∧ n = 3) ∨ (∃ o : U2, h = o.txt ∧ n = 1)
abbrev tx (m : List Ty) : List Au := m.map fun t => t.tree.text
def ST (s : Au) (L : Bm) : C2 := fun v I' L' => v = .string (str s) ∧ L = L'
def TW (o : Option (Ty × Ty)) (L : Bm) : C2 := fun v I' L' => v = .tuple #[.string (str (t1 o)), .string (str (t2 o)), .bool o.isSome] ∧ L = L'
theorem Sz {s : Au} {t : Tree} {ok : Bool} (hpf : match Dn s with | some t0 => ok = true ∧ t = t0 | none => ok = false) : (ok = true → t.typed = true → ∃ a, Lj s = some a ∧ t = a.tree ∧ a.size ≤ 16) ∧ (ok = false ∨ t.typed = false → Lj s = none) := by
 have e : Iz s = bif ok && t.typed then some t else none := by
  unfold Iz
  cases hp : Dn s with
  | none => rw [hp] at hpf; simp [hpf]
  | some t0 => rw [hp] at hpf; obtain ⟨rfl, rfl⟩ := hpf; simp only [Bool.true_and]
 constructor
 ·intro h1 h2; rw [h1, h2] at e; obtain ⟨a, h3, h4, h5, _⟩ := Ye e
  exact ⟨a, h3, h4, h5⟩
 ·intro h
  have : Iz s = none := by rw [e]; rcases h with h | h <;> simp [h]
  unfold Lj; rw [this]; rfl
theorem X8 (s sg : Au) (hs : s.length ≤ Be) (I : Heap) (L : Bm) : Fun Tryz.prog 207 [.string (str s), .string (str sg)] I L (TW (Gy sg s) L) := by
 refine Ap Af ?_; refine Se rfl ?_
 iterate 3 refine Oa rfl ?_
 refine Aa (Se rfl (Om rfl ?_)); refine Ca rfl (Sa s hs _ _) ?_; rintro _ J _ e1 ⟨t, cs, ok, rfl, hrep, rfl, hpf⟩; obtain ⟨oa, c, oaf, cf, rfl, hf⟩ := hrep.at'
 have hty := Sz hpf
 have hn := hf.nil
 refine Om rfl (Oe rfl rfl (Oe rfl rfl ?_)); refine A3 .free rfl ?_; intro b7; refine Bu rfl rfl rfl rfl .free ?_; refine Oa rfl (Aa (Ah (Se rfl (Om rfl ?_)))); refine C6 rfl .free rfl ?_; refine Om rfl ?_
 apply F9 16 20 rfl
 ·intro g2_3 hk
  try simp only [nb] at g2_3
  have hp := Fr (Hw hpf g2_3)
  refine A8 rfl (.met rfl rfl) rfl ?_; refine Cq rfl (.met rfl rfl) rfl (Md hf.rep hp.1 (Tree.size_maxN hp.2.1) _) ?_; rintro _ _ _ _ ⟨rfl, rfl, rfl⟩; refine C6 rfl (.met rfl rfl) rfl ?_; refine Of rfl rfl ?_
  exact Av 3 rfl rfl hk
 ·intro _ hk; refine A0 3 rfl ?_; refine Ot rfl rfl ?_
  exact Av 3 rfl rfl hk
 refine Om rfl ?_
 apply F9 21 25 rfl
 ·intro g2_8 hk
  try simp only [nb] at g2_8
  refine A2 rfl (.met rfl rfl) rfl ?_; refine A4 rfl (.met rfl rfl) rfl ?_; refine Ck rfl rfl rfl (.met rfl rfl) rfl ?_; refine Of rfl rfl ?_
  exact Av 3 rfl rfl hk
 ·intro _ hk; refine A0 3 rfl ?_; refine Ot rfl rfl ?_
  exact Av 3 rfl rfl hk
 refine Om rfl ?_
 apply F9 26 34 rfl
 ·intro g2_13 hk
  try simp only [nb] at g2_13
  have hp := Fr (Hw hpf g2_13.1.1)
  have hne := (K8 hp.1 (by simpa using g2_13.2)).2
  refine A2 rfl (.met rfl rfl) rfl ?_; refine A4 rfl (.met rfl rfl) rfl ?_
  first | refine Ba rfl rfl 0 rfl (.met rfl rfl) rfl ?_ | refine Bb rfl rfl 0 rfl (.met rfl rfl) rfl ?_
  refine Bj rfl (.met rfl rfl) rfl ?_; refine Gj rfl (.met rfl rfl) rfl ?_; refine Ow rfl ?_; refine Ck rfl rfl rfl (.met rfl rfl) rfl ?_; refine Of rfl rfl ?_
  exact Av 7 rfl rfl hk
 ·intro _ hk; refine A0 7 rfl ?_; refine Ot rfl rfl ?_
  exact Av 7 rfl rfl hk
 refine Aa ?_; refine Ay rfl ?_ ?_
 ·intro c0
  try simp only [nb] at c0
  refine Se rfl ?_
  iterate 3 refine Oa rfl ?_
  refine Aa ?_; refine Ak (.tmp rfl (.tmp rfl (.tmp rfl .nil))) ?_; refine ⟨J, L, e1, Bt, ?_, rfl⟩
  have hz : Gy sg s = none := by
   by_cases h1 : ok = true
   ·by_cases h2 : t.typed = true
    ·obtain ⟨a, h3, rfl, h4⟩ := hty.1 h1 h2; refine (Ri h3).2 ?_; rintro ⟨h5, h6⟩
     rcases c0 with ((h | h) | h) | h
     ·rw [h1] at h; cases h
     ·rw [h2] at h; cases h
     ·exact h h5
     ·have hp := Fr (Hw hpf h1)
      exact h ((Mh (K8 hp.1 h5).2).symm.trans h6)
    ·exact Rh (hty.2 (.inr (by simpa using h2)))
   ·exact Rh (hty.2 (.inl (by simpa using h1)))
  rw [hz]; rfl
 intro c0
 try simp only [nb] at c0
 obtain ⟨⟨⟨h1, h2⟩, h3⟩, h4⟩ := c0
 have hp := Fr (Hw hpf h1)
 have hne := (K8 hp.1 (by simpa using h3)).2
 obtain ⟨a, h5, rfl, h6⟩ := hty.1 h1 h2; obtain ⟨x, y, h7, h8, h9, h10⟩ := (Ri h5).1 ⟨by simpa using h3, (Mh hne).trans (by simpa using h4)⟩
 have hx := Tree.pt_good hp.1 1 Ab
 have hy := Tree.pt_good hp.1 2 Ab
 have hl1 := a.tree.pt_len 1 Ab
 have hl2 := a.tree.pt_len 2 Ab
 refine Aj (Ah ?_); refine D6 13 rfl rfl ?_; refine Da 0 rfl (Ao rfl) ?_; refine Dt 1 [13] rfl (By rfl) ?_
 first | refine Da 2 rfl (Br rfl rfl 1 rfl) ?_ | refine Da 2 rfl (Bs rfl rfl 1 rfl) ?_
 refine Dt 3 [13] rfl (Bx rfl) ?_; refine Da 5 rfl (Ao rfl) ?_; refine Dt 6 [13] rfl (By rfl) ?_
 first | refine Da 7 rfl (Br rfl rfl 2 rfl) ?_ | refine Da 7 rfl (Bs rfl rfl 2 rfl) ?_
 refine Dt 8 [13] rfl (Bx rfl) ?_; refine Dc 4 rfl rfl (Lw _ (Nat.lt_succ_self _) (hf.rp 1 Ab) hx Ab _) ?_; rintro _ _ _ _ ⟨rfl, rfl, rfl⟩; refine Hx ?_; refine Dc 9 rfl rfl (Lw _ (Nat.lt_succ_self _) (hf.rp 2 Ab) hy Ab _) ?_; rintro _ _ _ _ ⟨rfl, rfl, rfl⟩; refine Hx ?_; refine Da 10 rfl (A5 rfl) ?_; refine Da 11 rfl (A5 rfl) ?_; refine Da 12 rfl (A5 rfl) ?_; refine Aw Ac ?_; refine Ak (.tmp rfl (.tmp rfl (.tmp rfl .nil))) ?_
 exact ⟨J, L, e1, Bt, by rw [h7, h9, h10]; rfl, rfl⟩
theorem Y6 (s : Au) (hs : s.length ≤ Be) (I : Heap) (L : Bm) : Fun Tryz.prog 197 [.string (str s)] I L (TW (Gy [62] s) L) := by
 refine Ap Af ?_; refine Se rfl ?_
 iterate 3 refine Oa rfl ?_
 refine Aa (Se rfl (Om rfl ?_)); refine Ca rfl (X8 s [62] hs _ _) ?_; rintro _ J _ e1 ⟨rfl, rfl⟩
 iterate 3 refine Oe rfl rfl ?_
 iterate 3 refine Oa rfl ?_
 refine Aa ?_; refine Ak (.tmp rfl (.tmp rfl (.tmp rfl .nil))) ?_
 exact ⟨J, L, e1, Bt, rfl, rfl⟩
theorem W8 (s : Au) (hs : s.length ≤ Be) (I : Heap) (L : Bm) : Fun Tryz.prog 196 [.string (str s)] I L (TW (Gy [42] s) L) := by
 refine Ap Af ?_; refine Se rfl ?_
 iterate 3 refine Oa rfl ?_
 refine Aa (Se rfl (Om rfl ?_)); refine Ca rfl (X8 s [42] hs _ _) ?_; rintro _ J _ e1 ⟨rfl, rfl⟩
 iterate 3 refine Oe rfl rfl ?_
 iterate 3 refine Oa rfl ?_
 refine Aa ?_; refine Ak (.tmp rfl (.tmp rfl (.tmp rfl .nil))) ?_
 exact ⟨J, L, e1, Bt, rfl, rfl⟩
theorem RStrs.mono {I I' : Heap} (hle : HLe I I') {L : Bm} {oa : Option Addr} {l : List Au} (h : RStrs I L oa l) : RStrs I' L oa l := ⟨fun a ha => Rc hle (h.reads a ha), h.nil, h.len⟩
end Go.Proofs.YtmfagaajiakgoaaGreatDoor
