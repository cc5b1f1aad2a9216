/- Types by their texts: taken apart, put together, joined. No conditions. -/
import Derived.Test.YtfddjcmeejjhiaaGreatDoorG8

namespace Go.Proofs.YtfddjcmeejjhiaaGreatDoor
set_option maxRecDepth 100000
set_option linter.unusedVariables false
set_option linter.unusedSimpArgs false

def Ga (sg s : Ap) : Option (Ty × Ty) := match Ko s with
 | some (.fn a b) => if sg = [62] then some (a, b) else none
 | some (.pr a b) => if sg = [42] then some (a, b) else none
 | _ => none
def t1 (o : Option (Ty × Ty)) : Ap := (o.map fun p => p.1.tree.text).getD []
def t2 (o : Option (Ty × Ty)) : Ap := (o.map fun p => p.2.tree.text).getD []
theorem Ql {sg s : Ap} (h : Ko s = none) : Ga sg s = none := by unfold Ga; rw [h]
theorem Qm {sg s : Ap} {a : Ty} (h : Ko s = some a) : (a.tree.atom = [] ∧ a.tree.head = sg → ∃ x y, Ga sg s = some (x, y) ∧ a.tree.parts.length = 3 ∧ a.tree.pt 1 = x.tree ∧ a.tree.pt 2 = y.tree) ∧ (¬ (a.tree.atom = [] ∧ a.tree.head = sg) → Ga sg s = none) := by
 unfold Ga
 rw [h]
 cases a with
 | i => exact ⟨fun h => absurd h.1 (by decide), fun _ => rfl⟩
 | fn x y =>
  refine ⟨fun h => ⟨x, y, if_pos (show sg = [62] from h.2.symm), rfl, rfl, rfl⟩, fun h => if_neg fun e => h ⟨rfl, e.symm⟩⟩
 | pr x y =>
  refine ⟨fun h => ⟨x, y, if_pos (show sg = [42] from h.2.symm), rfl, rfl, rfl⟩, fun h => if_neg fun e => h ⟨rfl, e.symm⟩⟩
def Adf (f : Bool) (a b : Ty) : Ty := if f then .fn a b else .pr a b
def Ad4 (f : Bool) (a b : Ap) : Option Ap := match Ko a, Ko b with
 | some x, some y => if (Adf f x y).size ≤ 16 then some (Adf f x y).tree.text else none
 | _, _ => none
def sgn (f : Bool) : Ap := if f then [62] else [42]
def Aee (h k0 k1 k2 : Ap) : Ap :=
 if h = F5 ∧ k0 = [105] ∧ k1 = k2 then k1
 else if h = D6 ∧ (Ga [62] k0).isSome = true ∧ t1 (Ga [62] k0) = k1 then t2 (Ga [62] k0)
 else if h = C8 then (Ad4 false k0 k1).getD []
 else if h = Fa ∧ (Ga [42] k0).isSome = true then t1 (Ga [42] k0)
 else if h = Fb ∧ (Ga [42] k0).isSome = true then t2 (Ga [42] k0)
 else if (h = [43] ∨ h = [45] ∨ h = [42]) ∧ k0 = [105] ∧ k1 = [105] then [105]
 else []
def Aec (h : Ap) (n : Nat) : Prop := (∃ o : B5, h = o.txt ∧ n = 2) ∨ (h = F5 ∧ n = 3) ∨ (∃ o : U2, h = o.txt ∧ n = 1)
abbrev tx (m : List Ty) : List Ap := m.map fun t => t.tree.text
theorem Bytes.take {I : Heap} {oa : Option Addr} {l : List UInt8} {c : Nat} (h : Bytes I oa l c) (m : Nat) (hm : m ≤ l.length) : Bytes I (if c = 0 then oa else oa.map (·.add (0 * 1))) (l.take m) (c - 0) := by
  have e : (if c = 0 then oa else oa.map (·.add (0 * 1))) = oa := by
    have : ∀ x : Addr, x.add (0 * 1) = x := fun x => by simp [Addr.add]
    cases oa <;> simp [this]
  rw [e]
  refine ⟨fun x hx => ?_, fun hx => by rw [h.nil hx]; simp, by have := h.cap; simp; omega, by have := h.len; simp; omega⟩
  rcases h.still x hx with h0 | ⟨cc, T, fr, hb, hs, hc⟩
  · exact .inl (by have : l = [] := by simpa using h0
                   simp [this])
  · refine .inr ⟨cc, T, fr, hb, hs, fun i hi => ?_⟩
    simp only [List.length_map, List.length_take] at hi
    rw [hc i (by simp; omega)]
    simp

def rd (b : Nat) (oa : Option Addr) (l : List UInt8) (c p : Nat) : Nat × Obj := (b, .cells [.slice oa l.length c, .int .i64 (p : Nat)].toArray 88 (0, 0))
def OP (L : Bh) : Cs := fun v I' L' => ∃ b oa l c, v = .pointer (some ⟨b, 0, none⟩) ∧ Bytes I' oa l c ∧ l.length ≤ 2000 ∧ L' = rd b oa l c 0 :: L
theorem Z6       {I : Heap} {oa : Option Addr} {l : List UInt8} {c : Nat} (h : Bytes I oa l c) (L : Bh ) : Fun Tryz.prog 30 [.slice oa l.length c] I L (OP L) := by
  have hlen := h.len
  have hcap := h.cap
  refine Ag        (by simp) ?_
  refine Se rfl (Oa rfl (Aa     (Ab    (Se rfl (Om rfl (On rfl (Oc rfl rfl rfl (Aa     ?_))))))))
  refine Si rfl ?_ ?_
  · intro c0
    refine Af      rfl (Om rfl ?_)
    refine Jg            rfl rfl rfl 0 2000 rfl rfl (by omega) .free rfl ?_
    refine Oa rfl (Aa     (Se rfl (Om rfl ?_)))
    refine Bt       rfl rfl rfl .free rfl ?_
    refine B7    rfl rfl .free rfl ?_
    intro b10
    refine Oa rfl (Aa     (Ad    (.tmp rfl .nil) ?_))
    first
      | exact ⟨I, _, .refl _, fun _ h => h, _, oa, l, c, rfl, h, by omega, rfl⟩
      | (have h2 := h.take 2000 (by omega)
         have e : (l.take 2000).length = 2000 - 0 := by simp; omega
         exact ⟨I, _, .refl _, fun _ h => h, _, _, l.take 2000, c - 0, rfl, h2, by omega, by unfold rd; rw [e]; rfl⟩)
  intro c0
  refine Ae     (Se rfl (Om rfl ?_))
  refine Bt       rfl rfl rfl .free rfl ?_
  refine B7    rfl rfl .free rfl ?_
  intro b10
  refine Oa rfl (Aa     (Ad    (.tmp rfl .nil) ?_))
  first
    | exact ⟨I, _, .refl _, fun _ h => h, _, oa, l, c, rfl, h, by omega, rfl⟩
    | (have h2 := h.take 2000 (by omega)
       have e : (l.take 2000).length = 2000 - 0 := by simp; omega
       exact ⟨I, _, .refl _, fun _ h => h, _, _, l.take 2000, c - 0, rfl, h2, by omega, by unfold rd; rw [e]; rfl⟩)

def PK (b : Nat) (oa : Option Addr) (l : List UInt8) (c p n : Nat) (I : Heap) (L : Bh) : Cs := fun v I' L' => ∃ r : Nat, v = .int .i64 (r : Nat) ∧ I = I' ∧ L' = rd b oa l c (p + 1) :: L ∧ (r < n ∨ r = 0)
theorem Dg {I : Heap} {oa : Option Addr} {l : List UInt8} {c : Nat} (h : Bytes I oa l c) (hl : l.length ≤ 2000) (b p n : Nat) (hp : p ≤ 1099511627776) (hn : n ≤ 4294967296) (L : Bh) :
  Fun Tryz.prog 58 [.pointer (some ⟨b, 0, none⟩), .int .i64 (n : Nat)] I (rd b oa l c p :: L) (PK b oa l c p n I L) := by
 unfold rd
 refine Ag (by simp) ?_; refine Se rfl (Oa rfl (Aa (Se rfl (Om rfl (Om rfl ?_))))); refine Av rfl .free rfl ?_
 first | refine Oh rfl ?_ | refine Oj rfl ?_
 refine Cr rfl .free rfl ?_; refine Or rfl rfl rfl ?_; refine Av rfl .free rfl ?_
 first | refine Oh rfl ?_ | refine Oj rfl ?_
 refine Bn rfl rfl rfl rfl .free ?_; refine Aa (Ab (Se rfl (Om rfl (Oc rfl rfl rfl (Om rfl ?_)))))
 first | refine F3 rfl rfl ?_ ?_ | refine Em rfl rfl ?_ ?_ | refine Kq rfl rfl ?_ ?_
 ·intro g2_3
  iterate 6 refine Cd rfl rfl rfl ?_
  refine Ot rfl rfl (Aa ?_); refine Bj rfl ?_; refine Se rfl (Oa rfl (Aa (Ad (.tmp rfl .nil) ?_)))
  exact ⟨I, _, .refl _, fun _ h => h, 0, rfl, rfl, rfl, .inr rfl⟩
 intro g2_3; refine Ow rfl ?_; refine Av rfl (.met rfl rfl) rfl ?_
 first | refine Ax rfl (.met rfl rfl) rfl ?_ | refine Bd rfl (.met rfl rfl) rfl ?_
 refine Cr rfl (.met rfl rfl) rfl ?_; refine I6 rfl (.met rfl rfl) rfl ?_; refine Dh rfl rfl rfl (.met rfl rfl) rfl ?_; refine Of rfl rfl (Aa ?_); refine Si rfl ?_ ?_
 ·intro c0; refine Se rfl (Oa rfl (Aa (Ad (.tmp rfl .nil) ?_)))
  exact ⟨I, _, .refl _, fun _ h => h, 0, rfl, rfl, rfl, .inr rfl⟩
 intro c0; refine Ae (Se rfl (Om rfl ?_)); refine Av rfl .free rfl ?_
 first | refine Oh rfl ?_ | refine Oj rfl ?_
 refine Cr rfl .free rfl ?_; refine Or rfl rfl rfl ?_; refine Oa rfl (Aa (Ab (Ab ?_))); refine Kp (t := 5) (v' := .int .i64 (p : Nat)) rfl (by congr 1; omega) ?_; refine Af rfl (Om rfl (Om rfl ?_)); refine Av rfl .free rfl ?_
 first | refine Oh rfl ?_ | refine Oj rfl ?_
 refine Cr rfl .free rfl ?_; refine On rfl (Oc rfl rfl rfl (Aa ?_)); refine Si rfl ?_ ?_
 ·intro c1; obtain ⟨x, hx, hst⟩ := h.at p (by omega); refine Se rfl (Om rfl ?_); refine Av rfl .free rfl ?_
  first | refine Oh rfl ?_ | refine Oj rfl ?_
  refine Cr rfl .free rfl ?_; refine Om rfl ?_; refine Cm rfl rfl _ rfl (by first | omega | exact Cb (by assumption) (by decide) | (simp; done) | (simp; omega) | decide | (simp at *; omega)) (by first | rfl | assumption) .free rfl ?_; refine Cr rfl .free rfl ?_; refine Lj rfl (by first | exact UInt8.toNat_lt _ | omega) .free rfl ?_; refine Om rfl ?_; refine Ach rfl rfl (by omega) .free rfl ?_; refine Oa rfl (Aa (Ad (.tmp rfl .nil) ?_))
  exact ⟨I, _, .refl _, fun _ h => h, _, rfl, rfl, rfl, .inl (Nat.mod_lt _ (by omega))⟩
 intro c1
 have hpos : 0 < l.length := by omega
 obtain ⟨r1, hr1, hr1l⟩ : ∃ r, r = p % l.length ∧ r < l.length := ⟨_, rfl, Nat.mod_lt _ hpos⟩; obtain ⟨r2, hr2, hr2l⟩ : ∃ r, r = (p * 7 + 3) % l.length ∧ r < l.length := ⟨_, rfl, Nat.mod_lt _ hpos⟩; obtain ⟨q, hq, hqp⟩ : ∃ q, q = p / l.length ∧ q ≤ p := ⟨_, rfl, Nat.div_le_self _ _⟩; obtain ⟨x1, hx1, u1, hu1, hst1⟩ : ∃ x, oa = some x ∧ ∃ u : Nat, u < 256 ∧ Still I (x.add (r1 * 1)) [.int .u8 (u : Nat)] := by
  obtain ⟨x, hx, hst⟩ := h.at r1 hr1l
  exact ⟨x, hx, _, UInt8.toNat_lt _, hst⟩
 obtain ⟨u2, hu2, hst2⟩ : ∃ u : Nat, u < 256 ∧ Still I (x1.add (r2 * 1)) [.int .u8 (u : Nat)] := by
  obtain ⟨x, hx, hst⟩ := h.at r2 hr2l; obtain rfl : x1 = x := by rw [hx1] at hx; exact Option.some.inj hx
  exact ⟨_, UInt8.toNat_lt _, hst⟩
 clear h
 refine Ae (Ab ?_); refine Dp 46 rfl rfl ?_; refine Da 0 rfl (Ah rfl) ?_; refine Da 1 rfl (Dn rfl) ?_
 first | refine Da 2 rfl (Ai rfl) ?_ | refine Da 2 rfl (Bb rfl) ?_
 refine Dt 3 [46] rfl (N5 rfl) ?_; refine Da 4 rfl (Ah rfl) ?_; refine Da 5 rfl (Ah rfl) ?_; refine Da 6 rfl (Dn rfl) ?_
 first | refine Da 7 rfl (Ai rfl) ?_ | refine Da 7 rfl (Bb rfl) ?_
 refine Dt 8 [46] rfl (N5 rfl) ?_; refine Da 9 rfl (Fq rfl) ?_; refine Da 10 rfl (Xl rfl rfl (by omega)) ?_; refine Ha (t := 57) rfl (v' := .int .i64 (r1 : Nat)) (by rw [hr1]) ?_; refine Ft 11 rfl (by kernel_rfl) rfl (.inr Ao) (G8 rfl rfl _ rfl (by first | omega | exact Cb (by assumption) (by decide) | (simp; done) | (simp; omega) | decide | (simp at *; omega)) (by first | rfl | assumption)) .free rfl ?_; refine Dt 12 [46] rfl (N5 rfl) ?_; refine Ft 13 rfl (by kernel_rfl) rfl (.inr Ao) (N4 rfl (by first | exact UInt8.toNat_lt _ | omega)) .free rfl ?_
 refine Da 14 rfl (Gf rfl rfl rfl (by omega)) ?_; refine Da 15 rfl (Ah rfl) ?_; refine Da 16 rfl (Dn rfl) ?_
 first | refine Da 17 rfl (Ai rfl) ?_ | refine Da 17 rfl (Bb rfl) ?_
 refine Dt 18 [46] rfl (N5 rfl) ?_; refine Da 19 rfl (Ah rfl) ?_; refine Da 20 rfl (Gf rfl rfl rfl (by omega)) ?_; refine Da 21 rfl (Gf rfl rfl rfl (by omega)) ?_; refine Da 22 rfl (Ah rfl) ?_; refine Da 23 rfl (Dn rfl) ?_
 first | refine Da 24 rfl (Ai rfl) ?_ | refine Da 24 rfl (Bb rfl) ?_
 refine Dt 25 [46] rfl (N5 rfl) ?_; refine Da 26 rfl (Fq rfl) ?_; refine Ha (t := 68) rfl (v' := .int .i64 ((p * 7 + 3 : Nat))) (by congr 1) ?_; refine Da 27 rfl (Xl rfl rfl (by omega)) ?_; refine Ha (t := 74) rfl (v' := .int .i64 (r2 : Nat)) (by rw [hr2]) ?_; refine Ft 28 rfl (by kernel_rfl) rfl (.inr Ao) (G8 rfl rfl _ rfl (by first | omega | exact Cb (by assumption) (by decide) | (simp; done) | (simp; omega) | decide | (simp at *; omega)) (by first | rfl | assumption)) .free rfl ?_; refine Dt 29 [46] rfl (N5 rfl) ?_
 refine Ft 30 rfl (by kernel_rfl) rfl (.inr Ao) (N4 rfl (by first | exact UInt8.toNat_lt _ | omega)) .free rfl ?_; refine Da 31 rfl (Gf rfl rfl rfl (by omega)) ?_; refine Da 32 rfl (Gf rfl rfl rfl (by omega)) ?_; refine Da 33 rfl (Ah rfl) ?_; refine Da 34 rfl (Gf rfl rfl rfl (by omega)) ?_; refine Da 35 rfl (Gf rfl rfl rfl (by omega)) ?_; refine Da 36 rfl (Ah rfl) ?_; refine Da 37 rfl (Ah rfl) ?_; refine Da 38 rfl (Dn rfl) ?_
 first | refine Da 39 rfl (Ai rfl) ?_ | refine Da 39 rfl (Bb rfl) ?_
 refine Dt 40 [46] rfl (N5 rfl) ?_; refine Da 41 rfl (Fq rfl) ?_; refine Da 42 rfl (Aba rfl rfl (by omega) (by omega)) ?_; refine Ha (t := 89) rfl (v' := .int .i64 (q : Nat)) (by rw [hq]) ?_; refine Da 43 rfl (Gf rfl rfl rfl (by omega)) ?_; refine Da 44 rfl (Gf rfl rfl rfl (by omega)) ?_; refine Da 45 rfl (A2 rfl) ?_; refine At (by kernel_rfl) ?_; refine Ab ?_; obtain ⟨m, hm, hm2⟩ : ∃ m : Nat, (m : Int) = ↑u1 * 131 + ↑u2 * 1117 + ↑p * 29 + ↑q * 53 ∧ m ≤ 1152921504606846976 := ⟨u1 * 131 + u2 * 1117 + p * 29 + q * 53, by omega, by omega⟩
 refine Kp (t := 6) (v' := .int .i64 (m : Nat)) rfl (by congr 1; omega) ?_; refine Af rfl (Om rfl (Om rfl ?_)); refine Adi (b := 64) rfl rfl (by omega) (by omega) .free rfl ?_; refine Adj rfl rfl (by omega) (by omega) .free rfl ?_; refine Oa rfl (Aa (Se rfl (Om rfl (Om rfl ?_)))); refine Ach rfl rfl (by omega) .free rfl ?_; refine Oa rfl (Aa (Ad (.tmp rfl .nil) ?_))
 exact ⟨I, _, .refl _, fun _ h => h, _, rfl, rfl, rfl, .inl (Nat.mod_lt _ (by omega))⟩
def OF (b : Nat) (oa : Option Addr) (l : List UInt8) (c p : Nat) (ts : List Ap) (I : Heap) (L : Bh) : Cs := fun v I' L' => ∃ s, v = .string (str s) ∧ s ∈ ts ∧ I = I' ∧ L' = rd b oa l c (p + 1) :: L
theorem Ei {I : Heap} {oa : Option Addr} {l : List UInt8} {c : Nat} (h : Bytes I oa l c) (hl : l.length ≤ 2000) (b p : Nat) (hp : p ≤ 1099511627776) {ob : Option Addr} {ts : List Ap} {c' : Nat} (hts : Strs I ob ts c') (hne : ts ≠ []) (L : Bh) :
  Fun Tryz.prog 61 [.pointer (some ⟨b, 0, none⟩), .slice ob ts.length c'] I (rd b oa l c p :: L) (OF b oa l c p ts I L) := by
 have hlen := hts.len
 unfold Az at hlen
 have hpos := List.length_pos_iff.2 hne
 refine Ag (by simp) ?_; refine Se rfl (Oa rfl (Aa (Se rfl ?_)))
 iterate 3 refine Om rfl ?_
 refine On rfl ?_; refine Ca rfl (Dg h hl b p ts.length hp hlen L) ?_; rintro _ _ _ _ ⟨r, rfl, rfl, rfl, hr⟩; obtain ⟨x, hx, hst⟩ := hts.at r (by omega); refine Cm rfl rfl _ rfl (by first | omega | exact Cb (by assumption) (by decide) | (simp; done) | (simp; omega) | decide | (simp at *; omega)) (by first | rfl | assumption) .free rfl ?_; refine Cr rfl .free rfl ?_; refine Oa rfl (Aa (Ad (.tmp rfl .nil) ?_))
 exact ⟨I, _, .refl _, fun _ h => h, _, rfl, List.getElem_mem _, rfl, rfl⟩

def LS1 (l : List Ap) (L : Bh) : Cs := fun v I' L' => ∃ oa c, v = .slice oa (List.length l) c ∧ Strs I' oa l c ∧ L = L'
theorem Hp {I : Heap} {oa ob : Option Addr} {l m : List Ap} {c c' : Nat} (h : Strs I oa l c) (h' : Strs I ob m c') (hlm : l.length + m.length ≤ Az) (L : Bh) :
  Fun Tryz.prog 133 [.slice oa l.length c, .slice ob m.length c'] I L (LS1 (l ++ m) L) := by
 unfold Az at hlm
 refine Ag (by simp) ?_; refine Se rfl (Oa rfl (Aa (Se rfl ?_))); refine D7 .free rfl ?_; intro b5; refine Om rfl ?_; refine Jr (B := some (b5, [])) (xs := []) (ys := l.map sv) (m := 0) (c := 0) (by intro kk; simp) (by rfl) rfl rfl ⟨rfl, Nat.le_refl _, rfl⟩ (fun _ h => h) (by simp) h.reads h.none (Dy l) (by decide) (by omega) (by decide) .free rfl ?_; intro B1 c1 hB1; refine Om rfl ?_
 refine Jr (B := B1) (xs := [] ++ l.map sv) (ys := m.map sv) (m := 0 + l.length) (c := c1) (by intro kk; simp) (by rfl) rfl rfl hB1 (fun _ h => h) (by simp) h'.reads h'.none (Dy m) (by decide) (by omega) (by decide) .free rfl ?_; intro B2 c2 hB2; rw [List.nil_append, ← List.map_append] at hB2 ⊢; refine Oa rfl (Aa ?_); refine Ge hB2 (by simp) (by simp; unfold Az; omega) (fun s hs => by rcases List.mem_append.1 hs with hs | hs; exact h.each s hs; exact h'.each s hs) ?_; intro I2 oc c3 hle hv hst; refine Ad (.tmp rfl .nil) ?_
 exact ⟨I2, L, hle, fun _ h => h, oc, c3, hv, hst, rfl⟩

def EV (b : Nat) (oa : Option Addr) (l : List UInt8) (c p : Nat) (L : Bh) : Cs := fun v I' L' => ∃ o1 n1 c1 o2 n2 c2, v = .tuple #[.slice o1 (List.length n1) c1, .slice o2 (List.length n2) c2] ∧ Strs I' o1 n1 c1 ∧ Strs I' o2 n2 c2 ∧ n1.length ≤ 16 ∧ n2.length ≤ 16 ∧ (∀ s ∈ n1, s.length ≤ 16) ∧ (∀ s ∈ n2, s.length ≤ 16) ∧ L' = rd b oa l c (p + 1) :: L
theorem M4 {I : Heap} {b : Nat} {l : List Ap} {e : TypeId} (hlen : l.length ≤ Az) (hs : ∀ s ∈ l, s.length ≤ Az) : Strs (I.set b (.cells (l.map sv).toArray e (0, 0))) (some ⟨b, 0, none⟩) l l.length :=
 ⟨fun y hy => by cases hy; simpa using Be (xs := l.map sv) (ys := []), by simp, Nat.le_refl _, hlen, hs⟩
theorem D3 {P : Program} {f : FuncId} {n : Nat} {I₀ : Heap} {Q : Cs} {k : List Item} {E : Gm} {I : Heap} {L : Bh} {ops : Array Oper} {ol : List Oper} {e : TypeId} {b : Nat} (l : List Ap) (hlen : l.length ≤ Az) (hs : ∀ s ∈ l, s.length ≤ Az)
  (h : ∀ I', HLe I I' → Strs I' (some ⟨b, 0, none⟩) l l.length → A4 P f n I₀ Q ops ol k E I' L) : A4 P f n I₀ Q ops ol k E I ((b, .cells (l.map sv).toArray e (0, 0)) :: L) :=
 Aas fun hle => h _ hle (M4 hlen hs)
def DE (L : Bh) : Cs := fun v I' L' => ∃ o1 n1 c1 o2 n2 c2, v = .tuple #[.slice o1 (List.length n1) c1, .slice o2 (List.length n2) c2] ∧ Strs I' o1 n1 c1 ∧ Strs I' o2 n2 c2 ∧ n1.length ≤ 16 ∧ n2.length ≤ 16 ∧ (∀ s ∈ n1, s.length ≤ 16) ∧ (∀ s ∈ n2, s.length ≤ 16) ∧ L = L'
def DL (L : Bh) : Cs := fun v I' L' => ∃ o1 n1 c1 o2 n2 c2 s, v = .tuple #[.slice o1 (List.length n1) c1, .slice o2 (List.length n2) c2, .string (str s)] ∧ Strs I' o1 n1 c1 ∧ Strs I' o2 n2 c2 ∧ n1.length ≤ 16 ∧ n2.length ≤ 16 ∧ (∀ s ∈ n1, s.length ≤ 16) ∧ (∀ s ∈ n2, s.length ≤ 16) ∧ s.length ≤ 16 ∧ L = L'
def TOm (r : Except Ex Ty) (ok : Bool) (u w : Tree) : Prop := match r with
 | .ok t => ok = true ∧ u = t.tree
 | .error x => ok = false ∧ w = x.tree
def TO (r : Except Ex Ty) (L : Bh) : Cs := fun v I' L' => ∃ u cs w ds ok, v = .tuple #[.agg cs.toArray, .agg ds.toArray, .bool ok] ∧ Rep I' u cs ∧ Rep I' w ds ∧ L = L' ∧ TOm r ok u w
structure TR where
 J : Heap
 b1 : Nat
 b2 : Nat
 u : Tree
 w : Tree
 o1 : Option Addr
 k1 : Nat
 o2 : Option Addr
 k2 : Nat
 ok : Bool
structure TG where
 J : Heap
 ts : List Ty
 xs : List Value
 B : Ju
 c : Nat
def TG.is (e : Ex) (l : List Ap) (m : List Ty) (J0 : Heap) (x : TG) : Prop := HLe J0 x.J ∧ x.ts.length ≤ e.sub.length ∧ RepL x.J (x.ts.map Ty.tree) x.xs ∧ Er 2 x.ts.length x.c x.xs x.B ∧ smallL x.ts ∧
 e.runs l m = e.run l m (e.sub.drop x.ts.length) ((C9 e.tree).drop x.ts.length) x.ts

def ST (s : Ap) (L : Bh) : Cs := fun v I' L' => v = .string (str s) ∧ L = L'
def TW (o : Option (Ty × Ty)) (L : Bh) : Cs := fun v I' L' => v = .tuple #[.string (str (t1 o)), .string (str (t2 o)), .bool o.isSome] ∧ L = L'
theorem Ry {s : Ap} {t : Tree} {ok : Bool} (hpf : match C7 s with | some t0 => ok = true ∧ t = t0 | none => ok = false) : (ok = true → t.typed = true → ∃ a, Ko s = some a ∧ t = a.tree ∧ a.size ≤ 16) ∧ (ok = false ∨ t.typed = false → Ko s = none) := by
 have e : H0 s = bif ok && t.typed then some t else none := by
  unfold H0
  cases hp : C7 s with
  | none => rw [hp] at hpf; simp [hpf]
  | some t0 => rw [hp] at hpf; obtain ⟨rfl, rfl⟩ := hpf; simp only [Bool.true_and]
 constructor
 ·intro h1 h2; rw [h1, h2] at e; obtain ⟨a, h3, h4, h5, _⟩ := Xj e
  exact ⟨a, h3, h4, h5⟩
 ·intro h
  have : H0 s = none := by rw [e]; rcases h with h | h <;> simp [h]
  unfold Ko; rw [this]; rfl
theorem Xd (s sg : Ap) (hs : s.length ≤ Az) (I : Heap) (L : Bh) : Fun Tryz.prog 170 [.string (str s), .string (str sg)] I L (TW (Ga sg s) L) := by
 refine Ag (by simp) ?_; refine Se rfl ?_
 iterate 3 refine Oa rfl ?_
 refine Aa (Se rfl (Om rfl ?_)); refine Ca rfl (Re s hs _ _) ?_; rintro _ J _ e1 ⟨t, cs, ok, rfl, hrep, rfl, hpf⟩; obtain ⟨oa, c, oaf, cf, rfl, hf⟩ := hrep.at'
 have hty := Ry hpf
 have hn := hf.nil
 refine Om rfl (Oe rfl rfl (Oe rfl rfl ?_)); refine Aw .free rfl ?_; intro b7; refine Bn rfl rfl rfl rfl .free ?_; refine Oa rfl (Aa (Ab (Se rfl (Om rfl ?_)))); refine Cp rfl .free rfl ?_; refine Om rfl ?_
 apply Fx 16 20 rfl
 ·intro g2_3 hk
  try simp only [nb] at g2_3
  have hp := E7 (G3 hpf g2_3)
  refine A3 rfl (.met rfl rfl) rfl ?_; refine B9 rfl (.met rfl rfl) rfl (Lf hf.rep hp.1 (Tree.size_maxN hp.2.1) _) ?_; rintro _ _ _ _ ⟨rfl, rfl, rfl⟩; refine Cp rfl (.met rfl rfl) rfl ?_; refine Of rfl rfl ?_
  exact Ar 3 rfl rfl hk
 ·intro _ hk; refine A0 3 rfl ?_; refine Ot rfl rfl ?_
  exact Ar 3 rfl rfl hk
 refine Om rfl ?_
 apply Fx 21 25 rfl
 ·intro g2_8 hk
  try simp only [nb] at g2_8
  refine Ax rfl (.met rfl rfl) rfl ?_; refine A1 rfl (.met rfl rfl) rfl ?_; refine Cg rfl rfl rfl (.met rfl rfl) rfl ?_; refine Of rfl rfl ?_
  exact Ar 3 rfl rfl hk
 ·intro _ hk; refine A0 3 rfl ?_; refine Ot rfl rfl ?_
  exact Ar 3 rfl rfl hk
 refine Om rfl ?_
 apply Fx 26 34 rfl
 ·intro g2_13 hk
  try simp only [nb] at g2_13
  have hp := E7 (G3 hpf g2_13.1.1)
  have hne := (I0 hp.1 (by simpa using g2_13.2)).2
  refine Ax rfl (.met rfl rfl) rfl ?_; refine A1 rfl (.met rfl rfl) rfl ?_
  first | refine A5 rfl rfl 0 rfl (.met rfl rfl) rfl ?_ | refine A6 rfl rfl 0 rfl (.met rfl rfl) rfl ?_
  refine Bd rfl (.met rfl rfl) rfl ?_; refine Fo rfl (.met rfl rfl) rfl ?_; refine Ow rfl ?_; refine Cg rfl rfl rfl (.met rfl rfl) rfl ?_; refine Of rfl rfl ?_
  exact Ar 7 rfl rfl hk
 ·intro _ hk; refine A0 7 rfl ?_; refine Ot rfl rfl ?_
  exact Ar 7 rfl rfl hk
 refine Aa ?_; refine As rfl ?_ ?_
 ·intro c0
  try simp only [nb] at c0
  refine Se rfl ?_
  iterate 3 refine Oa rfl ?_
  refine Aa ?_; refine Ad (.tmp rfl (.tmp rfl (.tmp rfl .nil))) ?_; refine ⟨J, L, e1, Bf, ?_, rfl⟩
  have hz : Ga sg s = none := by
   by_cases h1 : ok = true
   ·by_cases h2 : t.typed = true
    ·obtain ⟨a, h3, rfl, h4⟩ := hty.1 h1 h2; refine (Qm h3).2 ?_; rintro ⟨h5, h6⟩
     rcases c0 with ((h | h) | h) | h
     ·rw [h1] at h; cases h
     ·rw [h2] at h; cases h
     ·exact h h5
     ·have hp := E7 (G3 hpf h1)
      exact h ((Kc (I0 hp.1 h5).2).symm.trans h6)
    ·exact Ql (hty.2 (.inr (by simpa using h2)))
   ·exact Ql (hty.2 (.inl (by simpa using h1)))
  rw [hz]; rfl
 intro c0
 try simp only [nb] at c0
 obtain ⟨⟨⟨h1, h2⟩, h3⟩, h4⟩ := c0
 have hp := E7 (G3 hpf h1)
 have hne := (I0 hp.1 (by simpa using h3)).2
 obtain ⟨a, h5, rfl, h6⟩ := hty.1 h1 h2; obtain ⟨x, y, h7, h8, h9, h10⟩ := (Qm h5).1 ⟨by simpa using h3, (Kc hne).trans (by simpa using h4)⟩
 have hx := Tree.pt_good hp.1 1 (by omega)
 have hy := Tree.pt_good hp.1 2 (by omega)
 have hl1 := a.tree.pt_len 1 (by omega)
 have hl2 := a.tree.pt_len 2 (by omega)
 refine Ae (Ab ?_); refine Dp 13 rfl rfl ?_; refine Da 0 rfl (Ai rfl) ?_; refine Dt 1 [13] rfl (Br rfl) ?_
 first | refine Da 2 rfl (Bl rfl rfl 1 rfl) ?_ | refine Da 2 rfl (Bm rfl rfl 1 rfl) ?_
 refine Dt 3 [13] rfl (Bq rfl) ?_; refine Da 5 rfl (Ai rfl) ?_; refine Dt 6 [13] rfl (Br rfl) ?_
 first | refine Da 7 rfl (Bl rfl rfl 2 rfl) ?_ | refine Da 7 rfl (Bm rfl rfl 2 rfl) ?_
 refine Dt 8 [13] rfl (Bq rfl) ?_; refine Dc 4 rfl rfl (Ky _ (Nat.lt_succ_self _) (hf.rp 1 (by omega)) hx (by omega) _) ?_; rintro _ _ _ _ ⟨rfl, rfl, rfl⟩; refine Hx ?_; refine Dc 9 rfl rfl (Ky _ (Nat.lt_succ_self _) (hf.rp 2 (by omega)) hy (by omega) _) ?_; rintro _ _ _ _ ⟨rfl, rfl, rfl⟩; refine Hx ?_; refine Da 10 rfl (A2 rfl) ?_; refine Da 11 rfl (A2 rfl) ?_; refine Da 12 rfl (A2 rfl) ?_; refine At (by kernel_rfl) ?_; refine Ad (.tmp rfl (.tmp rfl (.tmp rfl .nil))) ?_
 exact ⟨J, L, e1, Bf, by rw [h7, h9, h10]; rfl, rfl⟩
theorem X8 (s : Ap) (hs : s.length ≤ Az) (I : Heap) (L : Bh) : Fun Tryz.prog 162 [.string (str s)] I L (TW (Ga [62] s) L) := by
 refine Ag (by simp) ?_; refine Se rfl ?_
 iterate 3 refine Oa rfl ?_
 refine Aa (Se rfl (Om rfl ?_)); refine Ca rfl (Xd s [62] hs _ _) ?_; rintro _ J _ e1 ⟨rfl, rfl⟩
 iterate 3 refine Oe rfl rfl ?_
 iterate 3 refine Oa rfl ?_
 refine Aa ?_; refine Ad (.tmp rfl (.tmp rfl (.tmp rfl .nil))) ?_
 exact ⟨J, L, e1, Bf, rfl, rfl⟩
theorem Wa (s : Ap) (hs : s.length ≤ Az) (I : Heap) (L : Bh) : Fun Tryz.prog 163 [.string (str s)] I L (TW (Ga [42] s) L) := by
 refine Ag (by simp) ?_; refine Se rfl ?_
 iterate 3 refine Oa rfl ?_
 refine Aa (Se rfl (Om rfl ?_)); refine Ca rfl (Xd s [42] hs _ _) ?_; rintro _ J _ e1 ⟨rfl, rfl⟩
 iterate 3 refine Oe rfl rfl ?_
 iterate 3 refine Oa rfl ?_
 refine Aa ?_; refine Ad (.tmp rfl (.tmp rfl (.tmp rfl .nil))) ?_
 exact ⟨J, L, e1, Bf, rfl, rfl⟩
theorem RStrs.mono {I I' : Heap} (hle : HLe I I') {L : Bh} {oa : Option Addr} {l : List Ap} (h : RStrs I L oa l) : RStrs I' L oa l := ⟨fun a ha => Qg hle (h.reads a ha), h.nil, h.len⟩
end Go.Proofs.YtfddjcmeejjhiaaGreatDoor
