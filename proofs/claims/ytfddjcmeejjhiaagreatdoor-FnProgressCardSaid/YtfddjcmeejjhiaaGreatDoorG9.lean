/- The draws' reader: its picks are within bounds. No conditions. -/
import Derived.Test.YtfddjcmeejjhiaaGreatDoorG8

namespace Go.Proofs.YtfddjcmeejjhiaaGreatDoor
set_option maxRecDepth 100000
set_option linter.unusedVariables false
set_option linter.unusedSimpArgs false

theorem Bytes.take {I : Heap} {oa : Option Addr} {l : List UInt8} {c : Nat} (h : Bytes I oa l c) (m : Nat) (hm : m ≤ l.length) : Bytes I (if c = 0 then oa else oa.map (·.add (0 * 1))) (l.take m) (c - 0) := by
  have e : (if c = 0 then oa else oa.map (·.add (0 * 1))) = oa := by
    have : ∀ x : Addr, x.add (0 * 1) = x := fun x => by simp [Addr.add]
    cases oa <;> simp [this]
  rw [e]
  refine ⟨fun x hx => ?_, fun hx => by rw [h.nil hx]; simp, by have := h.cap; simp; omega, by have := h.len; simp; omega⟩
  rcases h.still x hx with h0 | ⟨cc, T, fr, hb, hs, hc⟩
  · exact .inl (by have : l = [] := by simpa using h0
                   simp [this])
  · refine .inr ⟨cc, T, fr, hb, hs, fun i hi => ?_⟩
    simp only [List.length_map, List.length_take] at hi
    rw [hc i (by simp; omega)]
    simp

def rd (b : Nat) (oa : Option Addr) (l : List UInt8) (c p : Nat) : Nat × Obj := (b, .cells [.slice oa l.length c, .int .i64 (p : Nat)].toArray 88 (0, 0))
def OP (L : Bf) : C1 := fun v I' L' => ∃ b oa l c, v = .pointer (some ⟨b, 0, none⟩) ∧ Bytes I' oa l c ∧ l.length ≤ 2000 ∧ L' = rd b oa l c 0 :: L
theorem Aah      {I : Heap} {oa : Option Addr} {l : List UInt8} {c : Nat} (h : Bytes I oa l c) (L : Bf ) : Fun Tryz.prog 30 [.slice oa l.length c] I L (OP L) := by
  have hlen := h.len
  have hcap := h.cap
  refine Ai        (by simp) ?_
  refine Se rfl (Oa rfl (Aa     (Ac    (Se rfl (Om rfl (On rfl (Oc rfl rfl rfl (Aa     ?_))))))))
  refine Si rfl ?_ ?_
  · intro c0
    refine Ag      rfl (Om rfl ?_)
    refine Jl            rfl rfl rfl 0 2000 rfl rfl (by omega) .free rfl ?_
    refine Oa rfl (Aa     (Se rfl (Om rfl ?_)))
    refine Bu       rfl rfl rfl .free rfl ?_
    refine Ct    rfl rfl .free rfl ?_
    intro b10
    refine Oa rfl (Aa     (Ad    (.tmp rfl .nil) ?_))
    first
      | exact ⟨I, _, .refl _, fun _ h => h, _, oa, l, c, rfl, h, by omega, rfl⟩
      | (have h2 := h.take 2000 (by omega)
         have e : (l.take 2000).length = 2000 - 0 := by simp; omega
         exact ⟨I, _, .refl _, fun _ h => h, _, _, l.take 2000, c - 0, rfl, h2, by omega, by unfold rd; rw [e]; rfl⟩)
  intro c0
  refine Ae     (Se rfl (Om rfl ?_))
  refine Bu       rfl rfl rfl .free rfl ?_
  refine Ct    rfl rfl .free rfl ?_
  intro b10
  refine Oa rfl (Aa     (Ad    (.tmp rfl .nil) ?_))
  first
    | exact ⟨I, _, .refl _, fun _ h => h, _, oa, l, c, rfl, h, by omega, rfl⟩
    | (have h2 := h.take 2000 (by omega)
       have e : (l.take 2000).length = 2000 - 0 := by simp; omega
       exact ⟨I, _, .refl _, fun _ h => h, _, _, l.take 2000, c - 0, rfl, h2, by omega, by unfold rd; rw [e]; rfl⟩)

def PK (b : Nat) (oa : Option Addr) (l : List UInt8) (c p n : Nat) (I : Heap) (L : Bf) : C1 := fun v I' L' => ∃ r : Nat, v = .int .i64 (r : Nat) ∧ I = I' ∧ L' = rd b oa l c (p + 1) :: L ∧ (r < n ∨ r = 0)
theorem Dk {I : Heap} {oa : Option Addr} {l : List UInt8} {c : Nat} (h : Bytes I oa l c) (hl : l.length ≤ 2000) (b p n : Nat) (hp : p ≤ 1099511627776) (hn : n ≤ 4294967296) (L : Bf) :
  Fun Tryz.prog 58 [.pointer (some ⟨b, 0, none⟩), .int .i64 (n : Nat)] I (rd b oa l c p :: L) (PK b oa l c p n I L) := by
 unfold rd
 refine Ai (by simp) ?_; refine Se rfl (Oa rfl (Aa (Se rfl (Om rfl (Om rfl ?_))))); refine Bp rfl .free rfl ?_
 first | refine Oh rfl ?_ | refine Oj rfl ?_
 refine Cm rfl .free rfl ?_; refine Or rfl rfl rfl ?_; refine Bp rfl .free rfl ?_
 first | refine Oh rfl ?_ | refine Oj rfl ?_
 refine Bt rfl rfl rfl rfl .free ?_; refine Aa (Ac (Se rfl (Om rfl (Oc rfl rfl rfl (Om rfl ?_)))))
 first | refine F4 rfl rfl ?_ ?_ | refine Em rfl rfl ?_ ?_ | refine Ko rfl rfl ?_ ?_
 ·intro g2_3
  iterate 6 refine Cd rfl rfl rfl ?_
  refine Ot rfl rfl (Aa ?_); refine Bn rfl ?_; refine Se rfl (Oa rfl (Aa (Ad (.tmp rfl .nil) ?_)))
  exact ⟨I, _, .refl _, fun _ h => h, 0, rfl, rfl, rfl, .inr rfl⟩
 intro g2_3; refine Ow rfl ?_; refine Bp rfl (.met rfl rfl) rfl ?_
 first | refine Bv rfl (.met rfl rfl) rfl ?_ | refine Bq rfl (.met rfl rfl) rfl ?_
 refine Cm rfl (.met rfl rfl) rfl ?_; refine G8 rfl (.met rfl rfl) rfl ?_; refine Df rfl rfl rfl (.met rfl rfl) rfl ?_; refine Of rfl rfl (Aa ?_); refine Si rfl ?_ ?_
 ·intro c0; refine Se rfl (Oa rfl (Aa (Ad (.tmp rfl .nil) ?_)))
  exact ⟨I, _, .refl _, fun _ h => h, 0, rfl, rfl, rfl, .inr rfl⟩
 intro c0; refine Ae (Se rfl (Om rfl ?_)); refine Bp rfl .free rfl ?_
 first | refine Oh rfl ?_ | refine Oj rfl ?_
 refine Cm rfl .free rfl ?_; refine Or rfl rfl rfl ?_; refine Oa rfl (Aa (Ac (Ac ?_))); refine Je (t := 5) (v' := .int .i64 (p : Nat)) rfl (by congr 1; omega) ?_; refine Ag rfl (Om rfl (Om rfl ?_)); refine Bp rfl .free rfl ?_
 first | refine Oh rfl ?_ | refine Oj rfl ?_
 refine Cm rfl .free rfl ?_; refine On rfl (Oc rfl rfl rfl (Aa ?_)); refine Si rfl ?_ ?_
 ·intro c1; obtain ⟨x, hx, hst⟩ := h.at p (by omega); refine Se rfl (Om rfl ?_); refine Bp rfl .free rfl ?_
  first | refine Oh rfl ?_ | refine Oj rfl ?_
  refine Cm rfl .free rfl ?_; refine Om rfl ?_; refine Cf rfl rfl _ rfl (by first | omega | exact B6 (by assumption) (by decide) | (simp; done) | (simp; omega) | decide | (simp at *; omega)) (by first | rfl | assumption) .free rfl ?_; refine Cm rfl .free rfl ?_; refine Lh rfl (by first | exact UInt8.toNat_lt _ | omega) .free rfl ?_; refine Om rfl ?_; refine Aa5 rfl rfl (by omega) .free rfl ?_; refine Oa rfl (Aa (Ad (.tmp rfl .nil) ?_))
  exact ⟨I, _, .refl _, fun _ h => h, _, rfl, rfl, rfl, .inl (Nat.mod_lt _ (by omega))⟩
 intro c1
 have hpos : 0 < l.length := by omega
 obtain ⟨r1, hr1, hr1l⟩ : ∃ r, r = p % l.length ∧ r < l.length := ⟨_, rfl, Nat.mod_lt _ hpos⟩; obtain ⟨r2, hr2, hr2l⟩ : ∃ r, r = (p * 7 + 3) % l.length ∧ r < l.length := ⟨_, rfl, Nat.mod_lt _ hpos⟩; obtain ⟨q, hq, hqp⟩ : ∃ q, q = p / l.length ∧ q ≤ p := ⟨_, rfl, Nat.div_le_self _ _⟩; obtain ⟨x1, hx1, u1, hu1, hst1⟩ : ∃ x, oa = some x ∧ ∃ u : Nat, u < 256 ∧ Still I (x.add (r1 * 1)) [.int .u8 (u : Nat)] := by
  obtain ⟨x, hx, hst⟩ := h.at r1 hr1l
  exact ⟨x, hx, _, UInt8.toNat_lt _, hst⟩
 obtain ⟨u2, hu2, hst2⟩ : ∃ u : Nat, u < 256 ∧ Still I (x1.add (r2 * 1)) [.int .u8 (u : Nat)] := by
  obtain ⟨x, hx, hst⟩ := h.at r2 hr2l; obtain rfl : x1 = x := by rw [hx1] at hx; exact Option.some.inj hx
  exact ⟨_, UInt8.toNat_lt _, hst⟩
 clear h
 refine Ae (Ac ?_); refine Cz 46 rfl rfl ?_; refine Da 0 rfl (Af rfl) ?_; refine Da 1 rfl (Dy rfl) ?_
 first | refine Da 2 rfl (Ah rfl) ?_ | refine Da 2 rfl (A1 rfl) ?_
 refine Dt 3 [46] rfl (Mc rfl) ?_; refine Da 4 rfl (Af rfl) ?_; refine Da 5 rfl (Af rfl) ?_; refine Da 6 rfl (Dy rfl) ?_
 first | refine Da 7 rfl (Ah rfl) ?_ | refine Da 7 rfl (A1 rfl) ?_
 refine Dt 8 [46] rfl (Mc rfl) ?_; refine Da 9 rfl (Fv rfl) ?_; refine Da 10 rfl (X5 rfl rfl (by omega)) ?_; refine Ea (t := 57) rfl (v' := .int .i64 (r1 : Nat)) (by rw [hr1]) ?_; refine Fy 11 rfl (by kernel_rfl) rfl (.inr Aj) (Hj rfl rfl _ rfl (by first | omega | exact B6 (by assumption) (by decide) | (simp; done) | (simp; omega) | decide | (simp at *; omega)) (by first | rfl | assumption)) .free rfl ?_; refine Dt 12 [46] rfl (Mc rfl) ?_; refine Fy 13 rfl (by kernel_rfl) rfl (.inr Aj) (Ny rfl (by first | exact UInt8.toNat_lt _ | omega)) .free rfl ?_
 refine Da 14 rfl (Hi rfl rfl rfl (by omega)) ?_; refine Da 15 rfl (Af rfl) ?_; refine Da 16 rfl (Dy rfl) ?_
 first | refine Da 17 rfl (Ah rfl) ?_ | refine Da 17 rfl (A1 rfl) ?_
 refine Dt 18 [46] rfl (Mc rfl) ?_; refine Da 19 rfl (Af rfl) ?_; refine Da 20 rfl (Hi rfl rfl rfl (by omega)) ?_; refine Da 21 rfl (Hi rfl rfl rfl (by omega)) ?_; refine Da 22 rfl (Af rfl) ?_; refine Da 23 rfl (Dy rfl) ?_
 first | refine Da 24 rfl (Ah rfl) ?_ | refine Da 24 rfl (A1 rfl) ?_
 refine Dt 25 [46] rfl (Mc rfl) ?_; refine Da 26 rfl (Fv rfl) ?_; refine Ea (t := 68) rfl (v' := .int .i64 ((p * 7 + 3 : Nat))) (by congr 1) ?_; refine Da 27 rfl (X5 rfl rfl (by omega)) ?_; refine Ea (t := 74) rfl (v' := .int .i64 (r2 : Nat)) (by rw [hr2]) ?_; refine Fy 28 rfl (by kernel_rfl) rfl (.inr Aj) (Hj rfl rfl _ rfl (by first | omega | exact B6 (by assumption) (by decide) | (simp; done) | (simp; omega) | decide | (simp at *; omega)) (by first | rfl | assumption)) .free rfl ?_; refine Dt 29 [46] rfl (Mc rfl) ?_
 refine Fy 30 rfl (by kernel_rfl) rfl (.inr Aj) (Ny rfl (by first | exact UInt8.toNat_lt _ | omega)) .free rfl ?_; refine Da 31 rfl (Hi rfl rfl rfl (by omega)) ?_; refine Da 32 rfl (Hi rfl rfl rfl (by omega)) ?_; refine Da 33 rfl (Af rfl) ?_; refine Da 34 rfl (Hi rfl rfl rfl (by omega)) ?_; refine Da 35 rfl (Hi rfl rfl rfl (by omega)) ?_; refine Da 36 rfl (Af rfl) ?_; refine Da 37 rfl (Af rfl) ?_; refine Da 38 rfl (Dy rfl) ?_
 first | refine Da 39 rfl (Ah rfl) ?_ | refine Da 39 rfl (A1 rfl) ?_
 refine Dt 40 [46] rfl (Mc rfl) ?_; refine Da 41 rfl (Fv rfl) ?_; refine Da 42 rfl (Abo rfl rfl (by omega) (by omega)) ?_; refine Ea (t := 89) rfl (v' := .int .i64 (q : Nat)) (by rw [hq]) ?_; refine Da 43 rfl (Hi rfl rfl rfl (by omega)) ?_; refine Da 44 rfl (Hi rfl rfl rfl (by omega)) ?_; refine Da 45 rfl (Av rfl) ?_; refine Ao (by kernel_rfl) ?_; refine Ac ?_; obtain ⟨m, hm, hm2⟩ : ∃ m : Nat, (m : Int) = ↑u1 * 131 + ↑u2 * 1117 + ↑p * 29 + ↑q * 53 ∧ m ≤ 1152921504606846976 := ⟨u1 * 131 + u2 * 1117 + p * 29 + q * 53, by omega, by omega⟩
 refine Je (t := 6) (v' := .int .i64 (m : Nat)) rfl (by congr 1; omega) ?_; refine Ag rfl (Om rfl (Om rfl ?_)); refine Adz (b := 64) rfl rfl (by omega) (by omega) .free rfl ?_; refine Ad0 rfl rfl (by omega) (by omega) .free rfl ?_; refine Oa rfl (Aa (Se rfl (Om rfl (Om rfl ?_)))); refine Aa5 rfl rfl (by omega) .free rfl ?_; refine Oa rfl (Aa (Ad (.tmp rfl .nil) ?_))
 exact ⟨I, _, .refl _, fun _ h => h, _, rfl, rfl, rfl, .inl (Nat.mod_lt _ (by omega))⟩
def OF (b : Nat) (oa : Option Addr) (l : List UInt8) (c p : Nat) (ts : List Aq) (I : Heap) (L : Bf) : C1 := fun v I' L' => ∃ s, v = .string (str s) ∧ s ∈ ts ∧ I = I' ∧ L' = rd b oa l c (p + 1) :: L
theorem Ej {I : Heap} {oa : Option Addr} {l : List UInt8} {c : Nat} (h : Bytes I oa l c) (hl : l.length ≤ 2000) (b p : Nat) (hp : p ≤ 1099511627776) {ob : Option Addr} {ts : List Aq} {c' : Nat} (hts : Strs I ob ts c') (hne : ts ≠ []) (L : Bf) :
  Fun Tryz.prog 61 [.pointer (some ⟨b, 0, none⟩), .slice ob ts.length c'] I (rd b oa l c p :: L) (OF b oa l c p ts I L) := by
 have hlen := hts.len
 unfold Ap at hlen
 have hpos := List.length_pos_iff.2 hne
 refine Ai (by simp) ?_; refine Se rfl (Oa rfl (Aa (Se rfl ?_)))
 iterate 3 refine Om rfl ?_
 refine On rfl ?_; refine Ca rfl (Dk h hl b p ts.length hp hlen L) ?_; rintro _ _ _ _ ⟨r, rfl, rfl, rfl, hr⟩; obtain ⟨x, hx, hst⟩ := hts.at r (by omega); refine Cf rfl rfl _ rfl (by first | omega | exact B6 (by assumption) (by decide) | (simp; done) | (simp; omega) | decide | (simp at *; omega)) (by first | rfl | assumption) .free rfl ?_; refine Cm rfl .free rfl ?_; refine Oa rfl (Aa (Ad (.tmp rfl .nil) ?_))
 exact ⟨I, _, .refl _, fun _ h => h, _, rfl, List.getElem_mem _, rfl, rfl⟩

def LS1 (l : List Aq) (L : Bf) : C1 := fun v I' L' => ∃ oa c, v = .slice oa (List.length l) c ∧ Strs I' oa l c ∧ L = L'
theorem Er {I : Heap} {oa ob : Option Addr} {l m : List Aq} {c c' : Nat} (h : Strs I oa l c) (h' : Strs I ob m c') (hlm : l.length + m.length ≤ Ap) (L : Bf) :
  Fun Tryz.prog 133 [.slice oa l.length c, .slice ob m.length c'] I L (LS1 (l ++ m) L) := by
 unfold Ap at hlm
 refine Ai (by simp) ?_; refine Se rfl (Oa rfl (Aa (Se rfl ?_))); refine Eo .free rfl ?_; intro b5; refine Om rfl ?_; refine Hr (B := some (b5, [])) (xs := []) (ys := l.map sv) (m := 0) (c := 0) (by intro kk; simp) (by rfl) rfl rfl ⟨rfl, Nat.le_refl _, rfl⟩ (fun _ h => h) (by simp) h.reads h.none (Dq l) (by decide) (by omega) (by decide) .free rfl ?_; intro B1 c1 hB1; refine Om rfl ?_
 refine Hr (B := B1) (xs := [] ++ l.map sv) (ys := m.map sv) (m := 0 + l.length) (c := c1) (by intro kk; simp) (by rfl) rfl rfl hB1 (fun _ h => h) (by simp) h'.reads h'.none (Dq m) (by decide) (by omega) (by decide) .free rfl ?_; intro B2 c2 hB2; rw [List.nil_append, ← List.map_append] at hB2 ⊢; refine Oa rfl (Aa ?_); refine Gr hB2 (by simp) (by simp; unfold Ap; omega) (fun s hs => by rcases List.mem_append.1 hs with hs | hs; exact h.each s hs; exact h'.each s hs) ?_; intro I2 oc c3 hle hv hst; refine Ad (.tmp rfl .nil) ?_
 exact ⟨I2, L, hle, fun _ h => h, oc, c3, hv, hst, rfl⟩

def EV (b : Nat) (oa : Option Addr) (l : List UInt8) (c p : Nat) (L : Bf) : C1 := fun v I' L' => ∃ o1 n1 c1 o2 n2 c2, v = .tuple #[.slice o1 (List.length n1) c1, .slice o2 (List.length n2) c2] ∧ Strs I' o1 n1 c1 ∧ Strs I' o2 n2 c2 ∧ n1.length ≤ 16 ∧ n2.length ≤ 16 ∧ (∀ s ∈ n1, s.length ≤ 16) ∧ (∀ s ∈ n2, s.length ≤ 16) ∧ L' = rd b oa l c (p + 1) :: L
theorem My {I : Heap} {b : Nat} {l : List Aq} {e : TypeId} (hlen : l.length ≤ Ap) (hs : ∀ s ∈ l, s.length ≤ Ap) : Strs (I.set b (.cells (l.map sv).toArray e (0, 0))) (some ⟨b, 0, none⟩) l l.length :=
 ⟨fun y hy => by cases hy; simpa using Bg (xs := l.map sv) (ys := []), by simp, Nat.le_refl _, hlen, hs⟩
theorem D5 {P : Program} {f : FuncId} {n : Nat} {I₀ : Heap} {Q : C1} {k : List Item} {E : Hb} {I : Heap} {L : Bf} {ops : Array Oper} {ol : List Oper} {e : TypeId} {b : Nat} (l : List Aq) (hlen : l.length ≤ Ap) (hs : ∀ s ∈ l, s.length ≤ Ap)
  (h : ∀ I', HLe I I' → Strs I' (some ⟨b, 0, none⟩) l l.length → A0 P f n I₀ Q ops ol k E I' L) : A0 P f n I₀ Q ops ol k E I ((b, .cells (l.map sv).toArray e (0, 0)) :: L) :=
 Aa2 fun hle => h _ hle (My hlen hs)
def DE (L : Bf) : C1 := fun v I' L' => ∃ o1 n1 c1 o2 n2 c2, v = .tuple #[.slice o1 (List.length n1) c1, .slice o2 (List.length n2) c2] ∧ Strs I' o1 n1 c1 ∧ Strs I' o2 n2 c2 ∧ n1.length ≤ 16 ∧ n2.length ≤ 16 ∧ (∀ s ∈ n1, s.length ≤ 16) ∧ (∀ s ∈ n2, s.length ≤ 16) ∧ L = L'
def DL (L : Bf) : C1 := fun v I' L' => ∃ o1 n1 c1 o2 n2 c2 s, v = .tuple #[.slice o1 (List.length n1) c1, .slice o2 (List.length n2) c2, .string (str s)] ∧ Strs I' o1 n1 c1 ∧ Strs I' o2 n2 c2 ∧ n1.length ≤ 16 ∧ n2.length ≤ 16 ∧ (∀ s ∈ n1, s.length ≤ 16) ∧ (∀ s ∈ n2, s.length ≤ 16) ∧ s.length ≤ 16 ∧ L = L'
theorem Aaj {I : Heap} {e : TypeId} {ts : List Ty} {xs : List Value} {B : Jy} {c : Nat} (hl : RepL I (ts.map Ty.tree) xs) (hB : D9 2 ts.length c xs B) :
  ∃ oh c', Bw ts.length c B = .slice oh ts.length c' ∧ ∀ L0, Have I (B8 e xs B ++ L0) oh ts := by
 cases B with
 | none =>
  obtain ⟨h1, h2, h3⟩ := hB; refine ⟨none, 0, by rw [h2]; rfl, fun L0 => ⟨fun k hk => by omega, fun _ => h2⟩⟩
 | some p =>
  obtain ⟨b, sp⟩ := p; refine ⟨some ⟨b, 0, none⟩, c, rfl, fun L0 => ⟨fun k hk => ?_, by simp⟩⟩; obtain ⟨c1, c2, h1, h2, h3⟩ := hl.get k (by simpa using hk); rw [List.getElem_map] at h1; obtain ⟨o1, k1, _, he, _⟩ := h1.open
  simp only [List.cons.injEq, and_true] at he
  obtain ⟨rfl, rfl⟩ := he; refine ⟨o1, k1, h1, fun w hw i hi => ?_⟩
  have e : ((S8 (some ⟨b, 0, none⟩)).add (k * 2)).add i = Addr.add ⟨b, 0, none⟩ (k * 2 + i) := Xk _ _ _
  rw [e, Lc (hw.2.1 _ (List.mem_append_left _ (List.mem_singleton.2 rfl))).1]
  have hlen := hl.length
  simp only [Nat.zero_add, List.getElem?_toArray]
  simp only [List.length_map] at hlen
  match i, hi with
  | 0, _ => rw [List.getElem?_append_left (by omega)]; simpa using h2
  | 1, _ => rw [List.getElem?_append_left (by omega)]; simpa using h3
def TOm (r : Except Ex Ty) (ok : Bool) (u w : Tree) : Prop := match r with
 | .ok t => ok = true ∧ u = t.tree
 | .error x => ok = false ∧ w = x.tree
def TO (r : Except Ex Ty) (L : Bf) : C1 := fun v I' L' => ∃ u cs w ds ok, v = .tuple #[.agg cs.toArray, .agg ds.toArray, .bool ok] ∧ Rep I' u cs ∧ Rep I' w ds ∧ L = L' ∧ TOm r ok u w
theorem Acw {r : Except Ex Ty} {ok : Bool} {u w : Tree} (h : TOm r ok u w) (hok : ok = true) : ∃ t, r = .ok t ∧ u = t.tree := by
 cases r with
 | ok t => exact ⟨t, rfl, h.2⟩
 | error x => rw [hok] at h; cases h.1
theorem Acv {r : Except Ex Ty} {ok : Bool} {u w : Tree} (h : TOm r ok u w) (hok : ok = false) : ∃ x, r = .error x ∧ w = x.tree := by
 cases r with
 | ok t => rw [hok] at h; cases h.1
 | error x => exact ⟨x, rfl, h.2⟩
theorem Qd {e : Ex} {r : Option Ty} {ok : Bool} {u : Tree} (h : match r with | some t => ok = true ∧ u = t.tree | none => ok = false) : TOm (e.fin r) (ok && u.typed) u e.tree := by
 cases r with
 | none => exact ⟨by rw [h]; rfl, rfl⟩
 | some t =>
  obtain ⟨rfl, rfl⟩ := h
  simp only [Ex.fin, Ty.tree_typed, Bool.true_and]
  by_cases hz : t.size ≤ 16
  ·rw [if_pos hz]; exact ⟨by simp [hz], rfl⟩
  ·rw [if_neg hz]; exact ⟨by simp [hz], rfl⟩
theorem Wj {I : Heap} {e : Ex} {f x : Aq} {s t : Ty} {b : Ex} {cs : List Value} (he : e = .fn f x s t b) (hok : e.ok = true) (h : Rep I (Ty.fn s t).tree cs) (L : Bf) : Fun Tryz.prog 77 [.agg cs.toArray] I L (Ec (.bool e.funOk) I L) := by
 subst he
 simp only [Ex.ok, Bool.and_eq_true, decide_eq_true_eq] at hok
 have := Gk h (by rw [Ty.tree_size]; simp only [Ty.size]; unfold Ap; have := hok.1.1.2; have := hok.1.2; omega) L
 rwa [Ty.tree_typed] at this
structure TR where
 J : Heap
 b1 : Nat
 b2 : Nat
 u : Tree
 w : Tree
 o1 : Option Addr
 k1 : Nat
 o2 : Option Addr
 k2 : Nat
 ok : Bool
structure TG where
 J : Heap
 ts : List Ty
 xs : List Value
 B : Jy
 c : Nat
def TG.is (e : Ex) (l : List Aq) (m : List Ty) (J0 : Heap) (x : TG) : Prop := HLe J0 x.J ∧ x.ts.length ≤ e.sub.length ∧ RepL x.J (x.ts.map Ty.tree) x.xs ∧ D9 2 x.ts.length x.c x.xs x.B ∧ smallL x.ts ∧
 e.runs l m = e.run l m (e.sub.drop x.ts.length) ((Ch e.tree).drop x.ts.length) x.ts

set_option maxHeartbeats 1000000 in
theorem Sk : ∀ (n : Nat) {I : Heap} {l : List Aq} {m : List Ty} {oa ob : Option Addr} {c c' : Nat} {e : Ex} {cs : List Value} (_ : SizeOf.sizeOf e < n) (_ : EnvAt I l m oa c ob c') (_ : Rep I e.tree cs) (_ : e.ok = true) (_ : l.length + 2 * e.size ≤ Ap) (L : Bf),
  Fun Tryz.prog 42 [.agg [.slice oa l.length c, .slice ob (m.map Ty.tree).length c'].toArray, .agg cs.toArray] I L (TO (e.chk l m) L) := by
 intro n
 induction n with
 | zero => intro I l m oa ob c c' e cs h; omega
 | succ n ihn =>
  intro I l m oa ob c c' e cs hlt he h hok hroom L; obtain ⟨oc, cc, oaf, cf, rfl, hf⟩ := h.at'
  have hle : HLe I I := .refl _
  have hsm := he.small
  have hsp := e.size_pos
  unfold Ap at hroom
  have hp := hf.len
  unfold Ap at hp
  refine Ai (by simp) ?_; refine Se rfl ?_; refine Ct rfl rfl .free rfl ?_; intro b2; refine Ct rfl rfl .free rfl ?_; intro b3; refine A2 .free rfl ?_; intro b4; refine A2 .free rfl ?_; intro b5; refine Oa rfl (Aa (Ac (Se rfl ?_))); refine Az rfl .free rfl ?_; refine Ca rfl (A7 hf.rep _) ?_; rintro _ _ _ _ ⟨rfl, rfl, rfl⟩; refine Od rfl rfl rfl (Om rfl ?_)
  apply D3 18 23 rfl
  ·intro g1_4 hk
   try simp only [nb] at g1_4
   obtain ⟨f, x, s, t, b, hfe⟩ := Ex.of_fun g1_4; refine Az rfl (.met rfl rfl) rfl ?_; refine B9 rfl (.met rfl rfl) rfl (Na (f := f) (x := x) (s := s) (t := t) (b := b) (Hu hf.rep (by rw [hfe])) _) ?_; rintro _ J _ e0 ⟨cs1, rfl, h1, rfl⟩; obtain ⟨o1, k1, _, rfl, -⟩ := h1.open; refine B9 rfl (.met rfl rfl) rfl (Wj hfe hok h1 _) ?_; rintro _ _ _ _ ⟨rfl, rfl, rfl⟩; refine Dw (fun w h => Mem.le e0 h) ?_; refine Cw rfl (.met rfl rfl) rfl ?_; refine Ot rfl rfl ?_
   exact Ay 4 rfl rfl hk
  ·intro _ hk; refine Ba 4 rfl ?_; refine Of rfl rfl ?_
   exact Ay 4 rfl rfl hk
  refine Aa ?_; refine Ar rfl ?_ ?_
  ·intro c0
   try simp only [nb] at c0
   have hbig := Abr (l := l) (m := m) c0.2
   refine Ac ?_; refine Cz 5 rfl rfl ?_; refine Da 0 rfl (D7 rfl rfl rfl) ?_; refine Ci 1 2 (by kernel_rfl) ?_ ?_
   ·skip
    refine C7 1 rfl rfl (Cb rfl) .free rfl (.inr Aj) ?_; refine Dx 2 rfl rfl rfl rfl ?_; refine Dx 3 rfl rfl rfl rfl ?_; refine Db 4 rfl (Av rfl) ?_; refine Ao (by kernel_rfl) ?_; refine Ad (.c rfl (.c rfl (.tmp rfl .nil))) ?_
    exact ⟨I, L, .refl _, Ax, U8, _, _, _, false, rfl, Li _, hf.rep, rfl, by rw [hbig]; exact ⟨rfl, rfl⟩⟩
   ·skip
    refine Hk 2 rfl rfl rfl rfl rfl rfl .free (.inl (by kernel_rfl)) ?_; refine Ey 1 rfl (by kernel_rfl) rfl (Cb rfl) .free rfl (.inl (by kernel_rfl)) ?_; refine Dx 3 rfl rfl rfl rfl ?_; refine Db 4 rfl (Av rfl) ?_; refine Ao (by kernel_rfl) ?_; refine Ad (.c rfl (.c rfl (.tmp rfl .nil))) ?_
    exact ⟨I, L, .refl _, Ax, U8, _, _, _, false, rfl, Li _, hf.rep, rfl, by rw [hbig]; exact ⟨rfl, rfl⟩⟩
  intro c0
  try simp only [nb] at c0
  have hfo : e.funOk = true := by
   rcases c0 with h | h
   ·cases e with
    | fn f x s t b => exact absurd rfl h
    | _ => rfl
   ·exact h
  have hfn := Z8 hfo
  have hchk := Zv (l := l) hok hsm hfo
  refine Ae (Se rfl (Oa rfl (Aa (Ac (Se rfl ?_))))); refine Az rfl .free rfl ?_; refine Ca rfl (D2 hf.rep _) ?_; rintro _ J0 _ e1 ⟨ok, ck, rfl, hk, rfl⟩
  have hf := hf.mono e1
  have he := he.mono e1
  have hkl := X2 e
  refine On rfl (Om rfl (Aa (Al ?_)))
  refine De (X := TG) (fun x => e.sub.length - x.ts.length) (fun x => [(2, .pointer (some ⟨b2, 0, none⟩)), (3, .pointer (some ⟨b3, 0, none⟩)), (4, .pointer (some ⟨b4, 0, none⟩)), (5, .pointer (some ⟨b5, 0, none⟩)), (6, .bool false), (7, Bw x.ts.length x.c x.B), (27, .slice ok (Ch e.tree).length ck), (28, .int .i64 ((Ch e.tree).length : Nat)), (29, .int .i64 (x.ts.length : Nat))]) (fun x => x.J) (fun x => B8 39 x.xs x.B ++ ((b5, .cells [.string (str []), .slice none 0 0].toArray 39 (0, 0)) :: (b4, .cells [.string (str []), .slice none 0 0].toArray 39 (0, 0)) :: (b3, .cells [.string (str e.tree.atom), .slice oc e.tree.parts.length cc].toArray 39 (0, 0)) :: (b2, .cells [.slice oa l.length c, .slice ob (m.map Ty.tree).length c'].toArray 53 (0, 0)) :: L)) (TG.is e l m J0) ⟨J0, [], [], none, 0⟩ ⟨.refl _, Nat.zero_le _, .nil, ⟨rfl, rfl, rfl⟩, (fun _ h => by cases h), rfl⟩ ⟨rfl, rfl, rfl, rfl, rfl, rfl, rfl, rfl, rfl, trivial⟩ (fun _ h => h) ?_
  rintro ⟨J, ts, xs, B, cb⟩ ⟨ez, hi, hl, hB, hst, hrun⟩ ih
  simp only at ez hi hl hB hst hrun ih ⊢
  have hf := hf.mono ez
  have he := he.mono ez
  have hk := hk.mono ez
  have hle := e1.trans ez
  obtain ⟨oh, ch, hbv, hh⟩ := Aaj (e := 39) hl hB; refine Je (t := 7) (v' := .slice oh ts.length ch) rfl hbv ?_
  have hn3 : e.sub.length ≤ 3 := by cases e <;> simp [Ex.sub]
  refine Se rfl (Oc rfl rfl rfl (Aa (Ac ?_))); refine Ar rfl ?_ ?_
  ·intro c1
   try simp only [nb] at c1
   have hi1 : ts.length < e.sub.length := by omega
   have hkm : (Ch e.tree).getD ts.length 0 ∈ Ch e.tree := by rw [show (Ch e.tree).getD ts.length 0 = (Ch e.tree)[ts.length]'(by omega) by simp [show ts.length < (Ch e.tree).length by omega]]; exact List.getElem_mem _
   have hkt := (Xx hkm).1
   obtain ⟨hs1, hs2, hs3⟩ := Nw (List.getElem_mem hi1)
   have hs3 := hs3 hok
   have hspt := Ade e ts.length hi1
   have hil := Ab2 e ((Ch e.tree).getD ts.length 0) l
   rw [Abf hi1] at hrun
   have h0s : (ts.getD 0 .i).size ≤ 16 := by
    cases ts with
    | nil => decide
    | cons t0 ts => exact hst t0 (.head _)
   refine Ae (Ac (Al (Se rfl ?_)))
   first | refine A8 rfl rfl _ rfl .free rfl ?_ | refine A9 rfl rfl _ rfl .free rfl ?_
   refine Dv rfl .free rfl ?_; refine Oa rfl (Aa (Ac ?_)); refine Cz 20 rfl rfl ?_
   refine R5 (X := TR) (fun x => [(2, .pointer (some ⟨b2, 0, none⟩)), (3, .pointer (some ⟨b3, 0, none⟩)), (4, .pointer (some ⟨b4, 0, none⟩)), (5, .pointer (some ⟨b5, 0, none⟩)), (6, .bool false), (7, .slice oh ts.length ch), (10, .pointer (some ⟨x.b1, 0, none⟩)), (11, .pointer (some ⟨x.b2, 0, none⟩)), (12, .bool x.ok), (27, .slice ok (Ch e.tree).length ck), (28, .int .i64 ((Ch e.tree).length : Nat)), (29, .int .i64 (ts.length : Nat))]) (fun x => x.J) (fun x => [(x.b2, .cells [.string (str x.w.atom), .slice x.o2 x.w.parts.length x.k2].toArray 39 (0, 0)), (x.b1, .cells [.string (str x.u.atom), .slice x.o1 x.u.parts.length x.k1].toArray 39 (0, 0))]) (fun x => HLe J x.J ∧ Rep x.J x.u [.string (str x.u.atom), .slice x.o1 x.u.parts.length x.k1] ∧ Rep x.J x.w [.string (str x.w.atom), .slice x.o2 x.w.parts.length x.k2] ∧ TOm (e.sub[ts.length].chk (e.inL ((Ch e.tree).getD ts.length 0) l) (e.inM ((Ch e.tree).getD ts.length 0) (ts.getD 0 .i) m)) x.ok x.u x.w) ?_ ?_
   ·rintro x0 ⟨ex, hru, hrw, hm⟩
    have hle := hle.trans ex
    simp only [List.cons_append, List.nil_append]
    refine Ac (Se rfl (Om rfl ?_)); refine Cw rfl .free rfl ?_; refine Aa ?_; refine Ar rfl ?_ ?_
    ·intro c2
     try simp only [nb] at c2
     obtain ⟨y, hy1, hy2⟩ := Acv hm (by simpa using c2); rw [hy1] at hrun; refine Ac ?_; refine Bd (fun w h => Mem.sub (L' := (x0.b2, _) :: (x0.b1, _) :: (b5, _) :: (b4, _) :: (b3, _) :: (b2, _) :: L) (.cons_cons _ (.cons_cons _ (List.sublist_append_right _ _))) h) ?_; refine Cz 5 rfl rfl ?_; refine Da 0 rfl (D7 rfl rfl rfl) ?_; refine Ci 1 2 (by kernel_rfl) ?_ ?_
     ·skip
      refine C7 1 rfl rfl (V4 rfl) .free rfl (.inr Aj) ?_; refine Dx 2 rfl rfl rfl rfl ?_; refine Dx 3 rfl rfl rfl rfl ?_; refine Db 4 rfl (Av rfl) ?_; refine Ao (by kernel_rfl) ?_; refine Ad (.c rfl (.c rfl (.tmp rfl .nil))) ?_
      exact ⟨x0.J, L, hle, Ax, U8, _, _, _, false, rfl, Li _, hrw, rfl, by rw [hchk, hrun]; exact ⟨rfl, hy2⟩⟩
     ·skip
      refine Hk 2 rfl rfl rfl rfl rfl rfl .free (.inl (by kernel_rfl)) ?_; refine Ey 1 rfl (by kernel_rfl) rfl (V4 rfl) .free rfl (.inl (by kernel_rfl)) ?_; refine Dx 3 rfl rfl rfl rfl ?_; refine Db 4 rfl (Av rfl) ?_; refine Ao (by kernel_rfl) ?_; refine Ad (.c rfl (.c rfl (.tmp rfl .nil))) ?_
      exact ⟨x0.J, L, hle, Ax, U8, _, _, _, false, rfl, Li _, hrw, rfl, by rw [hchk, hrun]; exact ⟨rfl, hy2⟩⟩
    intro c2
    try simp only [nb] at c2
    obtain ⟨t0, hc0, hu0⟩ := Acw hm (by simpa using c2); rw [hc0] at hrun
    have hz0 := Ex.chk_small hs3 (Yt hsm h0s hok hfn) hc0
    refine Ae (Ag rfl (Om rfl ?_)); refine Nn rfl .free rfl ?_; refine Ol rfl rfl ?_; intro b54; refine D4 (B := B) (xs := xs) (ys := [.string (str x0.u.atom), .slice x0.o1 x0.u.parts.length x0.k1]) (m := ts.length) (c := cb) (by intro kk; simp) (by rfl) (by rw [hbv]; rfl) rfl hB (fun _ h => h.u3) (by rfl) (fun a ha => by cases ha; exact Bk (by repeat first | exact .head _ | apply List.Mem.tail | apply List.mem_append_right) (by rfl)) (by simp) (by rfl) (by decide) (by decide) (by omega) (by decide) .free rfl ?_; intro bh sp ch2 hB2; refine Oa rfl (Aa (Ak (Ag rfl ?_))); refine Or rfl rfl rfl ?_
    refine Om rfl (Aa ?_)
    refine Be (E' := [(2, .pointer (some ⟨b2, 0, none⟩)), (3, .pointer (some ⟨b3, 0, none⟩)), (4, .pointer (some ⟨b4, 0, none⟩)), (5, .pointer (some ⟨b5, 0, none⟩)), (6, .bool false), (7, Bw (ts ++ [t0]).length ch2 (some (bh, sp))), (27, .slice ok (Ch e.tree).length ck), (28, .int .i64 ((Ch e.tree).length : Nat)), (29, .int .i64 ((ts ++ [t0]).length : Nat))]) ⟨rfl, rfl, rfl, rfl, rfl, (by simp [Bw]; rfl), rfl, rfl, (by simp; rfl), trivial⟩ (Bd (fun w h => Mem.sub (L' := (bh, _) :: (b5, _) :: (b4, _) :: (b3, _) :: (b2, _) :: L) (by repeat (first | exact List.Sublist.refl _ | apply List.Sublist.cons_cons | apply List.Sublist.cons)) h) (ih ⟨x0.J, ts ++ [t0], xs ++ [.string (str x0.u.atom), .slice x0.o1 x0.u.parts.length x0.k1], some (bh, sp), ch2⟩ ⟨ez.trans ex, by simp; omega, ?_, by simpa using hB2, hst.add hz0, by simpa using hrun⟩ (by simp; omega)))
    have h9 : RepL x0.J [t0.tree] [.string (str x0.u.atom), .slice x0.o1 x0.u.parts.length x0.k1] := by rw [← hu0]; exact .one hru
    simpa using (hl.mono ex).append h9
   ·intro hkk
    skip
    refine Dt 0 [17] rfl (Cb rfl) ?_; refine Dt 1 [17] rfl (Cb rfl) ?_; refine Da 2 rfl (Af rfl) ?_; refine Da 3 rfl (Af rfl) ?_; refine Da 5 rfl (Ah rfl) ?_; refine Dt 6 [17] rfl (Bl rfl) ?_; refine Da 7 rfl (Af rfl) ?_
    first | refine Da 8 rfl (A5 rfl rfl _ rfl) ?_ | refine Da 8 rfl (A6 rfl rfl _ rfl) ?_
    refine Dt 9 [17] rfl (Bb rfl) ?_; refine Ij 4 15 16 (by kernel_rfl) ?_ ?_ ?_
    ·skip
     refine Ft 4 rfl rfl rfl .free rfl (He he hf.rep hok _ hkm ((hh _).sub Ax) (fun x a b h h3 => ⟨by
      cases ts with
      | nil => subst h; exact absurd (show (2 : Nat) = 3 from h3) (by decide)
      | cons t0 ts => simp, h0s⟩) hfn (by unfold Ap; omega)) ?_
     rintro _ J1 _ e2 ⟨oe, ke, of, kf, rfl, he1, rfl⟩; refine Hx ?_; refine Ij 10 15 16 (by kernel_rfl) ?_ ?_ ?_
     ·skip
      refine Ft 10 rfl rfl rfl .free rfl (ihn (by omega) he1 (Hu ((hf.mono e2).rp _ hkt) hspt) hs3 (by unfold Ap; omega) _) ?_; rintro _ J2 _ e3 ⟨u, cs, w', ds, ok', rfl, hru, hrw, rfl, hm⟩; obtain ⟨o1, k1, _, rfl, -⟩ := hru.open; obtain ⟨o2, k2, _, rfl, -⟩ := hrw.open
      have hle1 := e2.trans e3
      refine Hx ?_; refine Da 11 rfl (Af rfl) ?_; refine Da 12 rfl (Bs rfl rfl) ?_; refine Da 13 rfl (Bs rfl rfl) ?_; refine Da 14 rfl (Bs rfl rfl) ?_; refine Ci 15 16 (by kernel_rfl) ?_ ?_
      ·skip
       refine B7 15 rfl rfl .free rfl (.inr Aj) ?_; intro b10; refine D8 16 rfl (by kernel_rfl) rfl .free rfl (.inr Aj) ?_; intro b11; refine Dx 17 rfl rfl rfl rfl ?_; refine Dx 18 rfl rfl rfl rfl ?_; refine Db 19 rfl (Av rfl) ?_; refine Ao (by kernel_rfl) ?_
       exact Be (E' := [(2, _), (3, _), (4, _), (5, _), (6, _), (7, _), (10, _), (11, _), (12, _), (27, _), (28, _), (29, _)]) ⟨rfl, rfl, rfl, rfl, rfl, rfl, rfl, rfl, rfl, rfl, rfl, rfl, trivial⟩ (Bd (by first | exact fun _ h => h | exact fun _ h => h.perm2) (hkk ⟨J2, b10, b11, u, w', o1, k1, o2, k2, ok'⟩ ⟨hle1, hru, hrw, hm⟩))
      ·skip
       refine B7 16 rfl rfl .free rfl (.inr Aj) ?_; intro b11; refine D8 15 rfl (by kernel_rfl) rfl .free rfl (.inr Aj) ?_; intro b10; refine Dx 17 rfl rfl rfl rfl ?_; refine Dx 18 rfl rfl rfl rfl ?_; refine Db 19 rfl (Av rfl) ?_; refine Ao (by kernel_rfl) ?_
       exact Be (E' := [(2, _), (3, _), (4, _), (5, _), (6, _), (7, _), (10, _), (11, _), (12, _), (27, _), (28, _), (29, _)]) ⟨rfl, rfl, rfl, rfl, rfl, rfl, rfl, rfl, rfl, rfl, rfl, rfl, trivial⟩ (Bd (by first | exact fun _ h => h | exact fun _ h => h.perm2) (hkk ⟨J2, b10, b11, u, w', o1, k1, o2, k2, ok'⟩ ⟨hle1, hru, hrw, hm⟩))
     ·skip
      refine B7 15 rfl rfl .free rfl (.inr Aj) ?_; intro b10; refine Ci 10 16 (by kernel_rfl) ?_ ?_
      ·skip
       refine Ft 10 rfl rfl rfl .free rfl (ihn (by omega) he1 (Hu ((hf.mono e2).rp _ hkt) hspt) hs3 (by unfold Ap; omega) _) ?_; rintro _ J2 _ e3 ⟨u, cs, w', ds, ok', rfl, hru, hrw, rfl, hm⟩; obtain ⟨o1, k1, _, rfl, -⟩ := hru.open; obtain ⟨o2, k2, _, rfl, -⟩ := hrw.open
       have hle1 := e2.trans e3
       refine Hx ?_; refine Da 11 rfl (Af rfl) ?_; refine Da 12 rfl (Bs rfl rfl) ?_; refine Da 13 rfl (Bs rfl rfl) ?_; refine Da 14 rfl (Bs rfl rfl) ?_; refine D8 16 rfl (by kernel_rfl) rfl .free rfl (.inr Aj) ?_; intro b11; refine Dx 17 rfl rfl rfl rfl ?_; refine Dx 18 rfl rfl rfl rfl ?_; refine Db 19 rfl (Av rfl) ?_; refine Ao (by kernel_rfl) ?_
       exact Be (E' := [(2, _), (3, _), (4, _), (5, _), (6, _), (7, _), (10, _), (11, _), (12, _), (27, _), (28, _), (29, _)]) ⟨rfl, rfl, rfl, rfl, rfl, rfl, rfl, rfl, rfl, rfl, rfl, rfl, trivial⟩ (Bd (by first | exact fun _ h => h | exact fun _ h => h.perm2) (hkk ⟨J2, b10, b11, u, w', o1, k1, o2, k2, ok'⟩ ⟨hle1, hru, hrw, hm⟩))
      ·skip
       refine B7 16 rfl rfl .free rfl (.inr Aj) ?_; intro b11; refine Dc 10 rfl rfl (ihn (by omega) he1 (Hu ((hf.mono e2).rp _ hkt) hspt) hs3 (by unfold Ap; omega) _) ?_; rintro _ J2 _ e3 ⟨u, cs, w', ds, ok', rfl, hru, hrw, rfl, hm⟩; obtain ⟨o1, k1, _, rfl, -⟩ := hru.open; obtain ⟨o2, k2, _, rfl, -⟩ := hrw.open
       have hle1 := e2.trans e3
       refine Hx ?_; refine Da 11 rfl (Af rfl) ?_; refine Da 12 rfl (Bs rfl rfl) ?_; refine Da 13 rfl (Bs rfl rfl) ?_; refine Da 14 rfl (Bs rfl rfl) ?_; refine Dx 17 rfl rfl rfl rfl ?_; refine Dx 18 rfl rfl rfl rfl ?_; refine Db 19 rfl (Av rfl) ?_; refine Ao (by kernel_rfl) ?_
       exact Be (E' := [(2, _), (3, _), (4, _), (5, _), (6, _), (7, _), (10, _), (11, _), (12, _), (27, _), (28, _), (29, _)]) ⟨rfl, rfl, rfl, rfl, rfl, rfl, rfl, rfl, rfl, rfl, rfl, rfl, trivial⟩ (Bd (by first | exact fun _ h => h | exact fun _ h => h.perm2) (hkk ⟨J2, b10, b11, u, w', o1, k1, o2, k2, ok'⟩ ⟨hle1, hru, hrw, hm⟩))
     ·skip
      refine B7 16 rfl rfl .free rfl (.inr Aj) ?_; intro b11; refine Ci 10 15 (by kernel_rfl) ?_ ?_
      ·skip
       refine Ft 10 rfl rfl rfl .free rfl (ihn (by omega) he1 (Hu ((hf.mono e2).rp _ hkt) hspt) hs3 (by unfold Ap; omega) _) ?_; rintro _ J2 _ e3 ⟨u, cs, w', ds, ok', rfl, hru, hrw, rfl, hm⟩; obtain ⟨o1, k1, _, rfl, -⟩ := hru.open; obtain ⟨o2, k2, _, rfl, -⟩ := hrw.open
       have hle1 := e2.trans e3
       refine Hx ?_; refine Da 11 rfl (Af rfl) ?_; refine Da 12 rfl (Bs rfl rfl) ?_; refine Da 13 rfl (Bs rfl rfl) ?_; refine Da 14 rfl (Bs rfl rfl) ?_; refine D8 15 rfl (by kernel_rfl) rfl .free rfl (.inr Aj) ?_; intro b10; refine Dx 17 rfl rfl rfl rfl ?_; refine Dx 18 rfl rfl rfl rfl ?_; refine Db 19 rfl (Av rfl) ?_; refine Ao (by kernel_rfl) ?_
       exact Be (E' := [(2, _), (3, _), (4, _), (5, _), (6, _), (7, _), (10, _), (11, _), (12, _), (27, _), (28, _), (29, _)]) ⟨rfl, rfl, rfl, rfl, rfl, rfl, rfl, rfl, rfl, rfl, rfl, rfl, trivial⟩ (Bd (by first | exact fun _ h => h | exact fun _ h => h.perm2) (hkk ⟨J2, b10, b11, u, w', o1, k1, o2, k2, ok'⟩ ⟨hle1, hru, hrw, hm⟩))
      ·skip
       refine B7 15 rfl rfl .free rfl (.inr Aj) ?_; intro b10; refine Dc 10 rfl rfl (ihn (by omega) he1 (Hu ((hf.mono e2).rp _ hkt) hspt) hs3 (by unfold Ap; omega) _) ?_; rintro _ J2 _ e3 ⟨u, cs, w', ds, ok', rfl, hru, hrw, rfl, hm⟩; obtain ⟨o1, k1, _, rfl, -⟩ := hru.open; obtain ⟨o2, k2, _, rfl, -⟩ := hrw.open
       have hle1 := e2.trans e3
       refine Hx ?_; refine Da 11 rfl (Af rfl) ?_; refine Da 12 rfl (Bs rfl rfl) ?_; refine Da 13 rfl (Bs rfl rfl) ?_; refine Da 14 rfl (Bs rfl rfl) ?_; refine Dx 17 rfl rfl rfl rfl ?_; refine Dx 18 rfl rfl rfl rfl ?_; refine Db 19 rfl (Av rfl) ?_; refine Ao (by kernel_rfl) ?_
       exact Be (E' := [(2, _), (3, _), (4, _), (5, _), (6, _), (7, _), (10, _), (11, _), (12, _), (27, _), (28, _), (29, _)]) ⟨rfl, rfl, rfl, rfl, rfl, rfl, rfl, rfl, rfl, rfl, rfl, rfl, trivial⟩ (Bd (by first | exact fun _ h => h | exact fun _ h => h.perm2) (hkk ⟨J2, b10, b11, u, w', o1, k1, o2, k2, ok'⟩ ⟨hle1, hru, hrw, hm⟩))
    ·skip
     refine B7 15 rfl rfl .free rfl (.inr Aj) ?_; intro b10; refine Ci 4 16 (by kernel_rfl) ?_ ?_
     ·skip
      refine Ft 4 rfl rfl rfl .free rfl (He he hf.rep hok _ hkm ((hh _).sub Ax) (fun x a b h h3 => ⟨by
       cases ts with
       | nil => subst h; exact absurd (show (2 : Nat) = 3 from h3) (by decide)
       | cons t0 ts => simp, h0s⟩) hfn (by unfold Ap; omega)) ?_
      rintro _ J1 _ e2 ⟨oe, ke, of, kf, rfl, he1, rfl⟩; refine Hx ?_; refine Ci 10 16 (by kernel_rfl) ?_ ?_
      ·skip
       refine Ft 10 rfl rfl rfl .free rfl (ihn (by omega) he1 (Hu ((hf.mono e2).rp _ hkt) hspt) hs3 (by unfold Ap; omega) _) ?_; rintro _ J2 _ e3 ⟨u, cs, w', ds, ok', rfl, hru, hrw, rfl, hm⟩; obtain ⟨o1, k1, _, rfl, -⟩ := hru.open; obtain ⟨o2, k2, _, rfl, -⟩ := hrw.open
       have hle1 := e2.trans e3
       refine Hx ?_; refine Da 11 rfl (Af rfl) ?_; refine Da 12 rfl (Bs rfl rfl) ?_; refine Da 13 rfl (Bs rfl rfl) ?_; refine Da 14 rfl (Bs rfl rfl) ?_; refine D8 16 rfl (by kernel_rfl) rfl .free rfl (.inr Aj) ?_; intro b11; refine Dx 17 rfl rfl rfl rfl ?_; refine Dx 18 rfl rfl rfl rfl ?_; refine Db 19 rfl (Av rfl) ?_; refine Ao (by kernel_rfl) ?_
       exact Be (E' := [(2, _), (3, _), (4, _), (5, _), (6, _), (7, _), (10, _), (11, _), (12, _), (27, _), (28, _), (29, _)]) ⟨rfl, rfl, rfl, rfl, rfl, rfl, rfl, rfl, rfl, rfl, rfl, rfl, trivial⟩ (Bd (by first | exact fun _ h => h | exact fun _ h => h.perm2) (hkk ⟨J2, b10, b11, u, w', o1, k1, o2, k2, ok'⟩ ⟨hle1, hru, hrw, hm⟩))
      ·skip
       refine B7 16 rfl rfl .free rfl (.inr Aj) ?_; intro b11; refine Dc 10 rfl rfl (ihn (by omega) he1 (Hu ((hf.mono e2).rp _ hkt) hspt) hs3 (by unfold Ap; omega) _) ?_; rintro _ J2 _ e3 ⟨u, cs, w', ds, ok', rfl, hru, hrw, rfl, hm⟩; obtain ⟨o1, k1, _, rfl, -⟩ := hru.open; obtain ⟨o2, k2, _, rfl, -⟩ := hrw.open
       have hle1 := e2.trans e3
       refine Hx ?_; refine Da 11 rfl (Af rfl) ?_; refine Da 12 rfl (Bs rfl rfl) ?_; refine Da 13 rfl (Bs rfl rfl) ?_; refine Da 14 rfl (Bs rfl rfl) ?_; refine Dx 17 rfl rfl rfl rfl ?_; refine Dx 18 rfl rfl rfl rfl ?_; refine Db 19 rfl (Av rfl) ?_; refine Ao (by kernel_rfl) ?_
       exact Be (E' := [(2, _), (3, _), (4, _), (5, _), (6, _), (7, _), (10, _), (11, _), (12, _), (27, _), (28, _), (29, _)]) ⟨rfl, rfl, rfl, rfl, rfl, rfl, rfl, rfl, rfl, rfl, rfl, rfl, trivial⟩ (Bd (by first | exact fun _ h => h | exact fun _ h => h.perm2) (hkk ⟨J2, b10, b11, u, w', o1, k1, o2, k2, ok'⟩ ⟨hle1, hru, hrw, hm⟩))
     ·skip
      refine B7 16 rfl rfl .free rfl (.inr Aj) ?_; intro b11
      refine E5 4 rfl (by kernel_rfl) rfl rfl .free rfl (He he hf.rep hok _ hkm ((hh _).sub Ax) (fun x a b h h3 => ⟨by
       cases ts with
       | nil => subst h; exact absurd (show (2 : Nat) = 3 from h3) (by decide)
       | cons t0 ts => simp, h0s⟩) hfn (by unfold Ap; omega)) ?_
      rintro _ J1 _ e2 ⟨oe, ke, of, kf, rfl, he1, rfl⟩; refine Hx ?_; refine Dc 10 rfl rfl (ihn (by omega) he1 (Hu ((hf.mono e2).rp _ hkt) hspt) hs3 (by unfold Ap; omega) _) ?_; rintro _ J2 _ e3 ⟨u, cs, w', ds, ok', rfl, hru, hrw, rfl, hm⟩; obtain ⟨o1, k1, _, rfl, -⟩ := hru.open; obtain ⟨o2, k2, _, rfl, -⟩ := hrw.open
      have hle1 := e2.trans e3
      refine Hx ?_; refine Da 11 rfl (Af rfl) ?_; refine Da 12 rfl (Bs rfl rfl) ?_; refine Da 13 rfl (Bs rfl rfl) ?_; refine Da 14 rfl (Bs rfl rfl) ?_; refine Dx 17 rfl rfl rfl rfl ?_; refine Dx 18 rfl rfl rfl rfl ?_; refine Db 19 rfl (Av rfl) ?_; refine Ao (by kernel_rfl) ?_
      exact Be (E' := [(2, _), (3, _), (4, _), (5, _), (6, _), (7, _), (10, _), (11, _), (12, _), (27, _), (28, _), (29, _)]) ⟨rfl, rfl, rfl, rfl, rfl, rfl, rfl, rfl, rfl, rfl, rfl, rfl, trivial⟩ (Bd (by first | exact fun _ h => h | exact fun _ h => h.perm2) (hkk ⟨J2, b10, b11, u, w', o1, k1, o2, k2, ok'⟩ ⟨hle1, hru, hrw, hm⟩))
    ·skip
     refine B7 16 rfl rfl .free rfl (.inr Aj) ?_; intro b11; refine Ci 4 15 (by kernel_rfl) ?_ ?_
     ·skip
      refine Ft 4 rfl rfl rfl .free rfl (He he hf.rep hok _ hkm ((hh _).sub Ax) (fun x a b h h3 => ⟨by
       cases ts with
       | nil => subst h; exact absurd (show (2 : Nat) = 3 from h3) (by decide)
       | cons t0 ts => simp, h0s⟩) hfn (by unfold Ap; omega)) ?_
      rintro _ J1 _ e2 ⟨oe, ke, of, kf, rfl, he1, rfl⟩; refine Hx ?_; refine Ci 10 15 (by kernel_rfl) ?_ ?_
      ·skip
       refine Ft 10 rfl rfl rfl .free rfl (ihn (by omega) he1 (Hu ((hf.mono e2).rp _ hkt) hspt) hs3 (by unfold Ap; omega) _) ?_; rintro _ J2 _ e3 ⟨u, cs, w', ds, ok', rfl, hru, hrw, rfl, hm⟩; obtain ⟨o1, k1, _, rfl, -⟩ := hru.open; obtain ⟨o2, k2, _, rfl, -⟩ := hrw.open
       have hle1 := e2.trans e3
       refine Hx ?_; refine Da 11 rfl (Af rfl) ?_; refine Da 12 rfl (Bs rfl rfl) ?_; refine Da 13 rfl (Bs rfl rfl) ?_; refine Da 14 rfl (Bs rfl rfl) ?_; refine D8 15 rfl (by kernel_rfl) rfl .free rfl (.inr Aj) ?_; intro b10; refine Dx 17 rfl rfl rfl rfl ?_; refine Dx 18 rfl rfl rfl rfl ?_; refine Db 19 rfl (Av rfl) ?_; refine Ao (by kernel_rfl) ?_
       exact Be (E' := [(2, _), (3, _), (4, _), (5, _), (6, _), (7, _), (10, _), (11, _), (12, _), (27, _), (28, _), (29, _)]) ⟨rfl, rfl, rfl, rfl, rfl, rfl, rfl, rfl, rfl, rfl, rfl, rfl, trivial⟩ (Bd (by first | exact fun _ h => h | exact fun _ h => h.perm2) (hkk ⟨J2, b10, b11, u, w', o1, k1, o2, k2, ok'⟩ ⟨hle1, hru, hrw, hm⟩))
      ·skip
       refine B7 15 rfl rfl .free rfl (.inr Aj) ?_; intro b10; refine Dc 10 rfl rfl (ihn (by omega) he1 (Hu ((hf.mono e2).rp _ hkt) hspt) hs3 (by unfold Ap; omega) _) ?_; rintro _ J2 _ e3 ⟨u, cs, w', ds, ok', rfl, hru, hrw, rfl, hm⟩; obtain ⟨o1, k1, _, rfl, -⟩ := hru.open; obtain ⟨o2, k2, _, rfl, -⟩ := hrw.open
       have hle1 := e2.trans e3
       refine Hx ?_; refine Da 11 rfl (Af rfl) ?_; refine Da 12 rfl (Bs rfl rfl) ?_; refine Da 13 rfl (Bs rfl rfl) ?_; refine Da 14 rfl (Bs rfl rfl) ?_; refine Dx 17 rfl rfl rfl rfl ?_; refine Dx 18 rfl rfl rfl rfl ?_; refine Db 19 rfl (Av rfl) ?_; refine Ao (by kernel_rfl) ?_
       exact Be (E' := [(2, _), (3, _), (4, _), (5, _), (6, _), (7, _), (10, _), (11, _), (12, _), (27, _), (28, _), (29, _)]) ⟨rfl, rfl, rfl, rfl, rfl, rfl, rfl, rfl, rfl, rfl, rfl, rfl, trivial⟩ (Bd (by first | exact fun _ h => h | exact fun _ h => h.perm2) (hkk ⟨J2, b10, b11, u, w', o1, k1, o2, k2, ok'⟩ ⟨hle1, hru, hrw, hm⟩))
     ·skip
      refine B7 15 rfl rfl .free rfl (.inr Aj) ?_; intro b10
      refine E5 4 rfl (by kernel_rfl) rfl rfl .free rfl (He he hf.rep hok _ hkm ((hh _).sub Ax) (fun x a b h h3 => ⟨by
       cases ts with
       | nil => subst h; exact absurd (show (2 : Nat) = 3 from h3) (by decide)
       | cons t0 ts => simp, h0s⟩) hfn (by unfold Ap; omega)) ?_
      rintro _ J1 _ e2 ⟨oe, ke, of, kf, rfl, he1, rfl⟩; refine Hx ?_; refine Dc 10 rfl rfl (ihn (by omega) he1 (Hu ((hf.mono e2).rp _ hkt) hspt) hs3 (by unfold Ap; omega) _) ?_; rintro _ J2 _ e3 ⟨u, cs, w', ds, ok', rfl, hru, hrw, rfl, hm⟩; obtain ⟨o1, k1, _, rfl, -⟩ := hru.open; obtain ⟨o2, k2, _, rfl, -⟩ := hrw.open
      have hle1 := e2.trans e3
      refine Hx ?_; refine Da 11 rfl (Af rfl) ?_; refine Da 12 rfl (Bs rfl rfl) ?_; refine Da 13 rfl (Bs rfl rfl) ?_; refine Da 14 rfl (Bs rfl rfl) ?_; refine Dx 17 rfl rfl rfl rfl ?_; refine Dx 18 rfl rfl rfl rfl ?_; refine Db 19 rfl (Av rfl) ?_; refine Ao (by kernel_rfl) ?_
      exact Be (E' := [(2, _), (3, _), (4, _), (5, _), (6, _), (7, _), (10, _), (11, _), (12, _), (27, _), (28, _), (29, _)]) ⟨rfl, rfl, rfl, rfl, rfl, rfl, rfl, rfl, rfl, rfl, rfl, rfl, trivial⟩ (Bd (by first | exact fun _ h => h | exact fun _ h => h.perm2) (hkk ⟨J2, b10, b11, u, w', o1, k1, o2, k2, ok'⟩ ⟨hle1, hru, hrw, hm⟩))
  intro c1
  try simp only [nb] at c1
  rw [Acb (by omega)] at hrun; rw [hrun] at hchk
  simp only at hchk
  refine Bx rfl ?_; refine Se rfl ?_; refine Az rfl .free rfl ?_; refine Az rfl .free rfl ?_; refine Om rfl ?_; refine Ca rfl (Sj he hf.rep hok ((hh _).sub Ax) (by omega) hfn) ?_; rintro _ J9 _ e9 ⟨u, cs, ok9, rfl, hru9, rfl, hm9⟩; obtain ⟨o9, k9, _, rfl, -⟩ := hru9.open
  have hf := hf.mono e9
  have hle := hle.trans e9
  have hsz : ok9 = true → u.size ≤ Ap := by
   intro h9
   cases hr : e.raw ts l m with
   | none => rw [hr] at hm9; rw [h9] at hm9; cases hm9
   | some t9 =>
    rw [hr] at hm9
    have := Y7 hst hsm hfn hr
    rw [hm9.2, Ty.tree_size]; unfold Ap; omega
  refine Om rfl (Oe rfl rfl (Oe rfl rfl ?_)); refine A2 .free rfl ?_; intro b13; refine Bt rfl rfl rfl rfl .free ?_; refine Oa rfl (Aa (Ac ?_)); refine Bd (L' := (b13, _) :: (b5, _) :: (b4, _) :: (b3, _) :: (b2, _) :: L) (fun w h => Mem.sub (.cons_cons _ (List.sublist_append_right _ _)) h) ?_; refine Cz 10 rfl rfl ?_; refine Dt 0 [7] rfl (Cb rfl) ?_; refine Da 2 rfl (Af rfl) ?_; refine Da 3 rfl (Af rfl) ?_
  first | refine Acl (t := 67) rfl ?_ ?_ | refine Adq (t := 67) rfl ?_ ?_
  ·intro g13_4; refine Dl 4 [5, 7] rfl (by kernel_rfl) rfl Aj (Cb rfl) (.met rfl rfl) rfl ?_; refine Ci 1 5 (by kernel_rfl) ?_ ?_
   ·skip
    refine C7 1 rfl rfl (Cb rfl) .free rfl (.inr Aj) ?_; refine E5 5 rfl (by kernel_rfl) rfl rfl (.met rfl rfl) rfl (Gk hru9 (hsz g13_4) _) ?_; rintro _ _ _ _ ⟨rfl, rfl, rfl⟩; refine Hx ?_; refine Da 6 rfl (C0 rfl rfl) ?_; refine Dx 7 rfl rfl rfl rfl ?_; refine Dx 8 rfl rfl rfl rfl ?_; refine Db 9 rfl (Av rfl) ?_; refine Ao (by kernel_rfl) ?_; refine Ad (.c rfl (.c rfl (.tmp rfl .nil))) ?_
    exact ⟨J9, L, hle, Ax, u, _, _, _, _, rfl, hru9, hf.rep, rfl, by rw [hchk]; have := Qd (e := e) hm9; simpa [g13_4] using this⟩
   ·skip
    refine Ft 5 rfl rfl rfl (.met rfl rfl) rfl (Gk hru9 (hsz g13_4) _) ?_; rintro _ _ _ _ ⟨rfl, rfl, rfl⟩; refine Hx ?_; refine Da 6 rfl (C0 rfl rfl) ?_; refine Ci 1 7 (by kernel_rfl) ?_ ?_
    ·skip
     refine C7 1 rfl rfl (Cb rfl) .free rfl (.inr Aj) ?_; refine Dx 7 rfl rfl rfl rfl ?_; refine Dx 8 rfl rfl rfl rfl ?_; refine Db 9 rfl (Av rfl) ?_; refine Ao (by kernel_rfl) ?_; refine Ad (.c rfl (.c rfl (.tmp rfl .nil))) ?_
     exact ⟨J9, L, hle, Ax, u, _, _, _, _, rfl, hru9, hf.rep, rfl, by rw [hchk]; have := Qd (e := e) hm9; simpa [g13_4] using this⟩
    ·skip
     refine Hk 7 rfl rfl rfl rfl rfl rfl .free (.inl (by kernel_rfl)) ?_; refine Ey 1 rfl (by kernel_rfl) rfl (Cb rfl) .free rfl (.inl (by kernel_rfl)) ?_; refine Dx 8 rfl rfl rfl rfl ?_; refine Db 9 rfl (Av rfl) ?_; refine Ao (by kernel_rfl) ?_; refine Ad (.c rfl (.c rfl (.tmp rfl .nil))) ?_
     exact ⟨J9, L, hle, Ax, u, _, _, _, _, rfl, hru9, hf.rep, rfl, by rw [hchk]; have := Qd (e := e) hm9; simpa [g13_4] using this⟩
  intro g13_4; refine Ds 4 rfl rfl rfl ?_; refine Ds 5 rfl rfl rfl ?_; refine Da 6 rfl (Ck rfl rfl) ?_; refine Ci 1 7 (by kernel_rfl) ?_ ?_
  ·skip
   refine C7 1 rfl rfl (Cb rfl) .free rfl (.inr Aj) ?_; refine Dx 7 rfl rfl rfl rfl ?_; refine Dx 8 rfl rfl rfl rfl ?_; refine Db 9 rfl (Av rfl) ?_; refine Ao (by kernel_rfl) ?_; refine Ad (.c rfl (.c rfl (.tmp rfl .nil))) ?_
   exact ⟨J9, L, hle, Ax, u, _, _, _, _, rfl, hru9, hf.rep, rfl, by rw [hchk]; have := Qd (e := e) hm9; simpa [g13_4] using this⟩
  ·skip
   refine Hk 7 rfl rfl rfl rfl rfl rfl .free (.inl (by kernel_rfl)) ?_; refine Ey 1 rfl (by kernel_rfl) rfl (Cb rfl) .free rfl (.inl (by kernel_rfl)) ?_; refine Dx 8 rfl rfl rfl rfl ?_; refine Db 9 rfl (Av rfl) ?_; refine Ao (by kernel_rfl) ?_; refine Ad (.c rfl (.c rfl (.tmp rfl .nil))) ?_
   exact ⟨J9, L, hle, Ax, u, _, _, _, _, rfl, hru9, hf.rep, rfl, by rw [hchk]; have := Qd (e := e) hm9; simpa [g13_4] using this⟩
def F8 (sg s : Aq) : Option (Ty × Ty) := match Ie s with
 | some (.fn a b) => if sg = [62] then some (a, b) else none
 | some (.pr a b) => if sg = [42] then some (a, b) else none
 | _ => none
def t1 (o : Option (Ty × Ty)) : Aq := (o.map fun p => p.1.tree.text).getD []
def t2 (o : Option (Ty × Ty)) : Aq := (o.map fun p => p.2.tree.text).getD []
theorem Qe {sg s : Aq} (h : Ie s = none) : F8 sg s = none := by unfold F8; rw [h]
theorem Qf {sg s : Aq} {a : Ty} (h : Ie s = some a) : (a.tree.atom = [] ∧ a.tree.head = sg → ∃ x y, F8 sg s = some (x, y) ∧ a.tree.parts.length = 3 ∧ a.tree.pt 1 = x.tree ∧ a.tree.pt 2 = y.tree) ∧ (¬ (a.tree.atom = [] ∧ a.tree.head = sg) → F8 sg s = none) := by
 unfold F8
 rw [h]
 cases a with
 | i => exact ⟨fun h => absurd h.1 (by decide), fun _ => rfl⟩
 | fn x y =>
  refine ⟨fun h => ⟨x, y, if_pos (show sg = [62] from h.2.symm), rfl, rfl, rfl⟩, fun h => if_neg fun e => h ⟨rfl, e.symm⟩⟩
 | pr x y =>
  refine ⟨fun h => ⟨x, y, if_pos (show sg = [42] from h.2.symm), rfl, rfl, rfl⟩, fun h => if_neg fun e => h ⟨rfl, e.symm⟩⟩
def Sz (f : Bool) (a b : Ty) : Ty := if f then .fn a b else .pr a b
def U7 (f : Bool) (a b : Aq) : Option Aq := match Ie a, Ie b with
 | some x, some y => if (Sz f x y).size ≤ 16 then some (Sz f x y).tree.text else none
 | _, _ => none
def sgn (f : Bool) : Aq := if f then [62] else [42]
theorem Ab7 (f : Bool) (x y : Ty) : (Sz f x y).tree.text = [40] ++ sgn f ++ [32] ++ x.tree.text ++ [32] ++ y.tree.text ++ [41] := by
 cases f <;> simp [Sz, sgn, Ty.tree, Tree.text, Fk]
theorem O4 {f : Bool} {a b : Aq} : U7 f a b = if (Dr a).isSome = true ∧ (Dr b).isSome = true ∧ (Dr ([40] ++ sgn f ++ [32] ++ a ++ [32] ++ b ++ [41])).isSome = true then some ([40] ++ sgn f ++ [32] ++ a ++ [32] ++ b ++ [41]) else none := by
 unfold U7
 rw [← Oi a, ← Oi b]
 cases ha : Ie a with
 | none => simp
 | some x => cases hb : Ie b with
  | none => simp
  | some y =>
   obtain ⟨-, -, h1⟩ := Ll ha; obtain ⟨-, -, h2⟩ := Ll hb; subst h1 h2; rw [← Ab7, M3]
   by_cases h : (Sz f x y).size ≤ 16 <;> simp [h]
def Ig (h k0 k1 k2 : Aq) : Aq :=
 if h = Fo ∧ k0 = [105] ∧ k1 = k2 then k1
 else if h = C9 ∧ (F8 [62] k0).isSome = true ∧ t1 (F8 [62] k0) = k1 then t2 (F8 [62] k0)
 else if h = Cq then (U7 false k0 k1).getD []
 else if h = Ev ∧ (F8 [42] k0).isSome = true then t1 (F8 [42] k0)
 else if h = E1 ∧ (F8 [42] k0).isSome = true then t2 (F8 [42] k0)
 else if (h = [43] ∨ h = [45] ∨ h = [42]) ∧ k0 = [105] ∧ k1 = [105] then [105]
 else []
def Zq (h : Aq) (n : Nat) : Prop := (∃ o : B5, h = o.txt ∧ n = 2) ∨ (h = Fo ∧ n = 3) ∨ (∃ o : U2, h = o.txt ∧ n = 1)
theorem W9 {sg : Aq} {t : Ty} (h : t.size ≤ 16) : F8 sg t.tree.text = match t with
 | .fn a b => if sg = [62] then some (a, b) else none
 | .pr a b => if sg = [42] then some (a, b) else none
 | _ => none := by
 unfold F8
 rw [Jx, if_pos h]
 cases t <;> rfl
theorem Adx {f : Bool} {a b : Ty} (ha : a.size ≤ 16) (hb : b.size ≤ 16) : (U7 f a.tree.text b.tree.text).getD [] = Jf (if (Sz f a b).size ≤ 16 then some (Sz f a b) else none) := by
 unfold U7
 rw [Jx, Jx, if_pos ha, if_pos hb]
 by_cases h : (Sz f a b).size ≤ 16 <;> simp [h, Jf]
theorem Aaq {h : Aq} {ts : List Ty} (ha : Zq h ts.length) (hs : smallL ts) : Ig h ((ts.map fun t => t.tree.text).getD 0 []) ((ts.map fun t => t.tree.text).getD 1 []) ((ts.map fun t => t.tree.text).getD 2 []) = Jf (Hg h (ts.map some)) := by
 rcases ha with ⟨o, rfl, hl⟩ | ⟨rfl, hl⟩ | ⟨o, rfl, hl⟩
 ·match ts, hl with
  | [s, t], _ =>
   have h1 := hs s (.head _)
   have h2 := hs t (.tail _ (.head _))
   simp only [List.map_cons, List.map_nil, List.getD_cons_zero, List.getD_cons_succ, Hg, B5.of_txt, Option.bind]
   cases o with
   | add =>
    simp only [Ig, B5.txt, B5.ty]
    simp [Fo, C9, Cq, Ev, E1, Ty.text_i]
    by_cases h : s = .i ∧ t = .i <;> simp [h, Jf, Ty.tree, Tree.text]
   | sub =>
    simp only [Ig, B5.txt, B5.ty]
    simp [Fo, C9, Cq, Ev, E1, Ty.text_i]
    by_cases h : s = .i ∧ t = .i <;> simp [h, Jf, Ty.tree, Tree.text]
   | mul =>
    simp only [Ig, B5.txt, B5.ty]
    simp [Fo, C9, Cq, Ev, E1, Ty.text_i]
    by_cases h : s = .i ∧ t = .i <;> simp [h, Jf, Ty.tree, Tree.text]
   | call =>
    simp only [Ig, B5.txt, B5.ty, W9 h1]
    simp [Fo, C9, Cq, Ev, E1]
    cases s with
    | fn a b =>
     simp only [if_true, Option.isSome_some, t1, t2, Option.map_some, Option.getD_some, true_and]
     by_cases h : a = t
     ·subst h; simp [Jf]
     ·have : ¬ a.tree.text = t.tree.text := fun e => h (Ty.text_inj e)
      simp [h, this, Jf]
    | i => simp [Jf]
    | pr a b => simp [Jf]
   | pair =>
    simp only [Ig, B5.txt, B5.ty]
    simp [Fo, C9, Cq, Ev, E1, Adx h1 h2]
    simp [Sz]
 ·match ts, hl with
  | [s, t, u], _ =>
   simp only [List.map_cons, List.map_nil, List.getD_cons_zero, List.getD_cons_succ, Hg]
   simp only [Ig]
   by_cases h : s = .i ∧ t = u
   ·obtain ⟨rfl, rfl⟩ := h
    simp [Jf, Ty.tree, Tree.text]
   ·have h3 : ¬ (s.tree.text = [105] ∧ t.tree.text = u.tree.text) := fun e => h ⟨Ty.text_i.1 e.1, Ty.text_inj e.2⟩
    rw [if_neg (fun e => h3 e.2), if_neg h]
    simp [Fo, C9, Cq, Ev, E1, Jf]
 ·match ts, hl with
  | [s], _ =>
   have h1 := hs s (.head _)
   simp only [List.map_cons, List.map_nil, List.getD_cons_zero, List.getD_cons_succ, List.getD_nil, Hg, U2.of_txt, Option.bind]
   cases o with
   | fst =>
    simp only [Ig, U2.txt, W9 h1]
    simp [Fo, C9, Cq, Ev, E1]
    cases s <;> simp [U2.ty, Jf, t1]
   | snd =>
    simp only [Ig, U2.txt, W9 h1]
    simp [Fo, C9, Cq, Ev, E1]
    cases s <;> simp [U2.ty, Jf, t2]
theorem Tv : ∀ {ks : List (Option Ty)}, none ∉ ks → ∃ ts : List Ty, ks = ts.map some
 | [], _ => ⟨[], rfl⟩
 | none :: ks, h => absurd (.head _) h
 | some t :: ks, h => by obtain ⟨ts, rfl⟩ := Tv (ks := ks) fun hk => h (.tail _ hk); exact ⟨t :: ts, rfl⟩
theorem Yy {h : Aq} {ks : List (Option Ty)} (hn : none ∈ ks) : Hg h ks = none := by
 match ks with
 | [some a] => simp at hn
 | [some a, some b] => simp at hn
 | [some a, some b, some c] => simp at hn
 | [] => rfl
 | none :: _ => rfl
 | [some a, none] => rfl
 | [some a, some b, none] => rfl
 | some a :: none :: b :: r => rfl
 | some a :: some b :: none :: c :: r => rfl
 | some a :: some b :: some c :: d :: r => rfl
theorem X4 {ks : List (Option Ty)} : [] ∈ ks.map Jf ↔ none ∈ ks := by
 simp only [List.mem_map, Tm]
 constructor
 ·rintro ⟨a, h, rfl⟩; exact h
 ·intro h; exact ⟨none, h, rfl⟩
theorem Abh (ts : List Ty) : (ts.map some).map Jf = ts.map fun t => t.tree.text := by simp [Jf, Function.comp_def]
theorem Wl {e : Ex} (hb : e.bare = false) (h1 : ¬ e.tree.head = Dh) (h2 : ¬ e.tree.head = Dg) (l : List Aq) (m : List Ty) :
  e.tree.parts.length = e.sub.length + 1 ∧ (∀ j (h : j < e.sub.length), e.tree.pt (j + 1) = e.sub[j].tree) ∧ e.ty l m = Hg e.tree.head (e.sub.map fun a => a.ty l m) ∧ Zq e.tree.head e.sub.length := by
 cases e with
 | num s => cases hb
 | name s => cases hb
 | lt x a b => exact absurd rfl h1
 | fn f x s t b => exact absurd rfl h2
 | bin o a b =>
  refine ⟨rfl, fun j h => ?_, Ex.ty_bin o a b l m, .inl ⟨o, rfl, rfl⟩⟩
  match j, h with
  | 0, _ => rfl
  | 1, _ => rfl
 | ite a b c =>
  refine ⟨rfl, fun j h => ?_, Ex.ty_ite a b c l m, .inr (.inl ⟨rfl, rfl⟩)⟩
  match j, h with
  | 0, _ => rfl
  | 1, _ => rfl
  | 2, _ => rfl
 | un o a =>
  refine ⟨rfl, fun j h => ?_, Ex.ty_un o a l m, .inr (.inr ⟨o, rfl, rfl⟩)⟩
  match j, h with
  | 0, _ => rfl
abbrev tx (m : List Ty) : List Aq := m.map fun t => t.tree.text
theorem Adw {s t : Ty} (hs : s.size ≤ 16) (ht : t.size ≤ 16) : U7 true s.tree.text t.tree.text = if (Ty.fn s t).size ≤ 16 then some (Ty.fn s t).tree.text else none := by
 unfold U7
 rw [Jx, Jx, if_pos hs, if_pos ht]
 rfl
def ST (s : Aq) (L : Bf) : C1 := fun v I' L' => v = .string (str s) ∧ L = L'
def TW (o : Option (Ty × Ty)) (L : Bf) : C1 := fun v I' L' => v = .tuple #[.string (str (t1 o)), .string (str (t2 o)), .bool o.isSome] ∧ L = L'
theorem Rv {s : Aq} {t : Tree} {ok : Bool} (hpf : match Cs s with | some t0 => ok = true ∧ t = t0 | none => ok = false) : (ok = true → t.typed = true → ∃ a, Ie s = some a ∧ t = a.tree ∧ a.size ≤ 16) ∧ (ok = false ∨ t.typed = false → Ie s = none) := by
 have e : Dr s = bif ok && t.typed then some t else none := by
  unfold Dr
  cases hp : Cs s with
  | none => rw [hp] at hpf; simp [hpf]
  | some t0 => rw [hp] at hpf; obtain ⟨rfl, rfl⟩ := hpf; simp only [Bool.true_and]
 constructor
 ·intro h1 h2; rw [h1, h2] at e; obtain ⟨a, h3, h4, h5, _⟩ := O7 e
  exact ⟨a, h3, h4, h5⟩
 ·intro h
  have : Dr s = none := by rw [e]; rcases h with h | h <;> simp [h]
  unfold Ie; rw [this]; rfl
theorem Xv (s sg : Aq) (hs : s.length ≤ Ap) (I : Heap) (L : Bf) : Fun Tryz.prog 170 [.string (str s), .string (str sg)] I L (TW (F8 sg s) L) := by
 refine Ai (by simp) ?_; refine Se rfl ?_
 iterate 3 refine Oa rfl ?_
 refine Aa (Se rfl (Om rfl ?_)); refine Ca rfl (Nd s hs _ _) ?_; rintro _ J _ e1 ⟨t, cs, ok, rfl, hrep, rfl, hpf⟩; obtain ⟨oa, c, oaf, cf, rfl, hf⟩ := hrep.at'
 have hty := Rv hpf
 have hn := hf.nil
 refine Om rfl (Oe rfl rfl (Oe rfl rfl ?_)); refine A2 .free rfl ?_; intro b7; refine Bt rfl rfl rfl rfl .free ?_; refine Oa rfl (Aa (Ac (Se rfl (Om rfl ?_)))); refine Cw rfl .free rfl ?_; refine Om rfl ?_
 apply Gb 16 20 rfl
 ·intro g2_3 hk
  try simp only [nb] at g2_3
  have hp := Fb (Hc hpf g2_3)
  refine Az rfl (.met rfl rfl) rfl ?_; refine B9 rfl (.met rfl rfl) rfl (Js hf.rep hp.1 (Tree.size_maxN hp.2.1) _) ?_; rintro _ _ _ _ ⟨rfl, rfl, rfl⟩; refine Cw rfl (.met rfl rfl) rfl ?_; refine Of rfl rfl ?_
  exact Ay 3 rfl rfl hk
 ·intro _ hk; refine Ba 3 rfl ?_; refine Ot rfl rfl ?_
  exact Ay 3 rfl rfl hk
 refine Om rfl ?_
 apply Gb 21 25 rfl
 ·intro g2_8 hk
  try simp only [nb] at g2_8
  refine Bv rfl (.met rfl rfl) rfl ?_; refine Bi rfl (.met rfl rfl) rfl ?_; refine Ga rfl rfl rfl (.met rfl rfl) rfl ?_; refine Of rfl rfl ?_
  exact Ay 3 rfl rfl hk
 ·intro _ hk; refine Ba 3 rfl ?_; refine Ot rfl rfl ?_
  exact Ay 3 rfl rfl hk
 refine Om rfl ?_
 apply Gb 26 34 rfl
 ·intro g2_13 hk
  try simp only [nb] at g2_13
  have hp := Fb (Hc hpf g2_13.1.1)
  have hne := (Ka hp.1 (by simpa using g2_13.2)).2
  refine Bv rfl (.met rfl rfl) rfl ?_; refine Bi rfl (.met rfl rfl) rfl ?_
  first | refine A8 rfl rfl 0 rfl (.met rfl rfl) rfl ?_ | refine A9 rfl rfl 0 rfl (.met rfl rfl) rfl ?_
  refine Bq rfl (.met rfl rfl) rfl ?_; refine Iz rfl (.met rfl rfl) rfl ?_; refine Ow rfl ?_; refine Ga rfl rfl rfl (.met rfl rfl) rfl ?_; refine Of rfl rfl ?_
  exact Ay 7 rfl rfl hk
 ·intro _ hk; refine Ba 7 rfl ?_; refine Ot rfl rfl ?_
  exact Ay 7 rfl rfl hk
 refine Aa ?_; refine Ar rfl ?_ ?_
 ·intro c0
  try simp only [nb] at c0
  refine Se rfl ?_
  iterate 3 refine Oa rfl ?_
  refine Aa ?_; refine Ad (.tmp rfl (.tmp rfl (.tmp rfl .nil))) ?_; refine ⟨J, L, e1, Ax, ?_, rfl⟩
  have hz : F8 sg s = none := by
   by_cases h1 : ok = true
   ·by_cases h2 : t.typed = true
    ·obtain ⟨a, h3, rfl, h4⟩ := hty.1 h1 h2; refine (Qf h3).2 ?_; rintro ⟨h5, h6⟩
     rcases c0 with ((h | h) | h) | h
     ·rw [h1] at h; cases h
     ·rw [h2] at h; cases h
     ·exact h h5
     ·have hp := Fb (Hc hpf h1)
      exact h ((Kb (Ka hp.1 h5).2).symm.trans h6)
    ·exact Qe (hty.2 (.inr (by simpa using h2)))
   ·exact Qe (hty.2 (.inl (by simpa using h1)))
  rw [hz]; rfl
 intro c0
 try simp only [nb] at c0
 obtain ⟨⟨⟨h1, h2⟩, h3⟩, h4⟩ := c0
 have hp := Fb (Hc hpf h1)
 have hne := (Ka hp.1 (by simpa using h3)).2
 obtain ⟨a, h5, rfl, h6⟩ := hty.1 h1 h2; obtain ⟨x, y, h7, h8, h9, h10⟩ := (Qf h5).1 ⟨by simpa using h3, (Kb hne).trans (by simpa using h4)⟩
 have hx := Tree.pt_good hp.1 1 (by omega)
 have hy := Tree.pt_good hp.1 2 (by omega)
 have hl1 := a.tree.pt_len 1 (by omega)
 have hl2 := a.tree.pt_len 2 (by omega)
 refine Ae (Ac ?_); refine Cz 13 rfl rfl ?_; refine Da 0 rfl (Ah rfl) ?_; refine Dt 1 [13] rfl (Bl rfl) ?_
 first | refine Da 2 rfl (A5 rfl rfl 1 rfl) ?_ | refine Da 2 rfl (A6 rfl rfl 1 rfl) ?_
 refine Dt 3 [13] rfl (Bb rfl) ?_; refine Da 5 rfl (Ah rfl) ?_; refine Dt 6 [13] rfl (Bl rfl) ?_
 first | refine Da 7 rfl (A5 rfl rfl 2 rfl) ?_ | refine Da 7 rfl (A6 rfl rfl 2 rfl) ?_
 refine Dt 8 [13] rfl (Bb rfl) ?_; refine Dc 4 rfl rfl (Iw _ (Nat.lt_succ_self _) (hf.rp 1 (by omega)) hx (by omega) _) ?_; rintro _ _ _ _ ⟨rfl, rfl, rfl⟩; refine Hx ?_; refine Dc 9 rfl rfl (Iw _ (Nat.lt_succ_self _) (hf.rp 2 (by omega)) hy (by omega) _) ?_; rintro _ _ _ _ ⟨rfl, rfl, rfl⟩; refine Hx ?_; refine Da 10 rfl (Av rfl) ?_; refine Da 11 rfl (Av rfl) ?_; refine Da 12 rfl (Av rfl) ?_; refine Ao (by kernel_rfl) ?_; refine Ad (.tmp rfl (.tmp rfl (.tmp rfl .nil))) ?_
 exact ⟨J, L, e1, Ax, by rw [h7, h9, h10]; rfl, rfl⟩
theorem Rb (s : Aq) (hs : s.length ≤ Ap) (I : Heap) (L : Bf) : Fun Tryz.prog 162 [.string (str s)] I L (TW (F8 [62] s) L) := by
 refine Ai (by simp) ?_; refine Se rfl ?_
 iterate 3 refine Oa rfl ?_
 refine Aa (Se rfl (Om rfl ?_)); refine Ca rfl (Xv s [62] hs _ _) ?_; rintro _ J _ e1 ⟨rfl, rfl⟩
 iterate 3 refine Oe rfl rfl ?_
 iterate 3 refine Oa rfl ?_
 refine Aa ?_; refine Ad (.tmp rfl (.tmp rfl (.tmp rfl .nil))) ?_
 exact ⟨J, L, e1, Ax, rfl, rfl⟩
theorem Pt (s : Aq) (hs : s.length ≤ Ap) (I : Heap) (L : Bf) : Fun Tryz.prog 163 [.string (str s)] I L (TW (F8 [42] s) L) := by
 refine Ai (by simp) ?_; refine Se rfl ?_
 iterate 3 refine Oa rfl ?_
 refine Aa (Se rfl (Om rfl ?_)); refine Ca rfl (Xv s [42] hs _ _) ?_; rintro _ J _ e1 ⟨rfl, rfl⟩
 iterate 3 refine Oe rfl rfl ?_
 iterate 3 refine Oa rfl ?_
 refine Aa ?_; refine Ad (.tmp rfl (.tmp rfl (.tmp rfl .nil))) ?_
 exact ⟨J, L, e1, Ax, rfl, rfl⟩
theorem Ps (f : Bool) (a b : Aq) (ha : a.length ≤ 1000000000) (hb : b.length ≤ 1000000000) (I : Heap) (L : Bf) : Fun Tryz.prog 134 [.bool f, .string (str a), .string (str b)] I L (EL (U7 f a b) L) := by
 refine Ai (by simp) ?_; refine Se rfl (Oa rfl (Oa rfl (Aa (Se rfl (Oa rfl (Aa (Ac (Ac ?_))))))))
 cases f
 ·skip
  refine Ag rfl (Om rfl (Aa ?_))
  first | refine Sf rfl (by decide) ?_ | refine Aw (by simp [look, Bc, *]) ?_
  refine Ae (Se rfl (Om rfl ?_)); refine Ok rfl rfl ?_; refine Ok rfl rfl ?_; refine Om rfl ?_; refine Ok rfl rfl ?_; refine Ok rfl rfl ?_; refine Om rfl ?_; refine Ok rfl rfl ?_; refine Ok rfl rfl ?_; refine Oa rfl (Aa (Ac (Se rfl (Om rfl ?_)))); refine Ca rfl (G6 a (by unfold Ap; omega) _ _) ?_; rintro _ J1 _ e1 ⟨rfl, rfl⟩; refine Cw rfl .free rfl ?_; refine Om rfl ?_
  apply Gb 23 27 rfl
  ·intro g5_4 hk
   try simp only [nb] at g5_4
   refine Ow rfl ?_; refine B9 rfl (.met rfl rfl) rfl (G6 b (by unfold Ap; omega) _ _) ?_; rintro _ J2 _ e2 ⟨rfl, rfl⟩; refine Dw (fun w h => Mem.le e2 h) ?_; refine Cw rfl (.met rfl rfl) rfl ?_; refine Of rfl rfl ?_
   exact Ay 3 rfl rfl hk
  ·intro _ hk; refine Ba 3 rfl ?_; refine Ot rfl rfl ?_
   exact Ay 3 rfl rfl hk
  refine Om rfl ?_
  apply Gb 28 32 rfl
  ·intro g5_9 hk
   try simp only [nb] at g5_9
   refine Ow rfl ?_; refine B9 rfl (.met rfl rfl) rfl (G6 _ (by simp only [List.length_append, List.length_cons, List.length_nil]; unfold Ap; omega) _ _) ?_; rintro _ J3 _ e3 ⟨rfl, rfl⟩; refine Dw (fun w h => Mem.le e3 h) ?_; refine Cw rfl (.met rfl rfl) rfl ?_; refine Of rfl rfl ?_
   exact Ay 3 rfl rfl hk
  ·intro _ hk; refine Ba 3 rfl ?_; refine Ot rfl rfl ?_
   exact Ay 3 rfl rfl hk
  refine Aa ?_; refine Ar rfl ?_ ?_
  ·intro c1
   try simp only [nb] at c1
   refine Se rfl (Oa rfl (Oa rfl (Aa ?_))); refine Ad (.tmp rfl (.tmp rfl .nil)) ?_; refine ⟨J1, L, e1, Ax, ?_, rfl⟩; rw [O4, if_neg (by rintro ⟨h1, h2, h3⟩; rcases c1 with (h | h) | h; rw [h1] at h; cases h; rw [h2] at h; cases h; simp only [sgn] at h3; exact absurd (h.symm.trans h3) (by decide))]; rfl
  intro c1
  try simp only [nb] at c1
  refine Ae (Se rfl (Om rfl (Oa rfl (Oa rfl (Aa ?_))))); refine Ad (.tmp rfl (.tmp rfl .nil)) ?_; refine ⟨J1, L, e1, Ax, ?_, rfl⟩; rw [O4, if_pos ⟨c1.1.1, c1.1.2, c1.2⟩]; rfl
 ·skip
  refine Ag rfl (Om rfl (Aa ?_))
  first | refine St rfl (by decide) ?_ | refine Bn (by simp [look, Bc, *]) ?_
  refine Ag rfl (Oa rfl (Aa (Se rfl (Om rfl ?_)))); refine Ok rfl rfl ?_; refine Ok rfl rfl ?_; refine Om rfl ?_; refine Ok rfl rfl ?_; refine Ok rfl rfl ?_; refine Om rfl ?_; refine Ok rfl rfl ?_; refine Ok rfl rfl ?_; refine Oa rfl (Aa (Ac (Se rfl (Om rfl ?_)))); refine Ca rfl (G6 a (by unfold Ap; omega) _ _) ?_; rintro _ J1 _ e1 ⟨rfl, rfl⟩; refine Cw rfl .free rfl ?_; refine Om rfl ?_
  apply Gb 23 27 rfl
  ·intro g5_4 hk
   try simp only [nb] at g5_4
   refine Ow rfl ?_; refine B9 rfl (.met rfl rfl) rfl (G6 b (by unfold Ap; omega) _ _) ?_; rintro _ J2 _ e2 ⟨rfl, rfl⟩; refine Dw (fun w h => Mem.le e2 h) ?_; refine Cw rfl (.met rfl rfl) rfl ?_; refine Of rfl rfl ?_
   exact Ay 3 rfl rfl hk
  ·intro _ hk; refine Ba 3 rfl ?_; refine Ot rfl rfl ?_
   exact Ay 3 rfl rfl hk
  refine Om rfl ?_
  apply Gb 28 32 rfl
  ·intro g5_9 hk
   try simp only [nb] at g5_9
   refine Ow rfl ?_; refine B9 rfl (.met rfl rfl) rfl (G6 _ (by simp only [List.length_append, List.length_cons, List.length_nil]; unfold Ap; omega) _ _) ?_; rintro _ J3 _ e3 ⟨rfl, rfl⟩; refine Dw (fun w h => Mem.le e3 h) ?_; refine Cw rfl (.met rfl rfl) rfl ?_; refine Of rfl rfl ?_
   exact Ay 3 rfl rfl hk
  ·intro _ hk; refine Ba 3 rfl ?_; refine Ot rfl rfl ?_
   exact Ay 3 rfl rfl hk
  refine Aa ?_; refine Ar rfl ?_ ?_
  ·intro c1
   try simp only [nb] at c1
   refine Se rfl (Oa rfl (Oa rfl (Aa ?_))); refine Ad (.tmp rfl (.tmp rfl .nil)) ?_; refine ⟨J1, L, e1, Ax, ?_, rfl⟩; rw [O4, if_neg (by rintro ⟨h1, h2, h3⟩; rcases c1 with (h | h) | h; rw [h1] at h; cases h; rw [h2] at h; cases h; simp only [sgn] at h3; exact absurd (h.symm.trans h3) (by decide))]; rfl
  intro c1
  try simp only [nb] at c1
  refine Ae (Se rfl (Om rfl (Oa rfl (Oa rfl (Aa ?_))))); refine Ad (.tmp rfl (.tmp rfl .nil)) ?_; refine ⟨J1, L, e1, Ax, ?_, rfl⟩; rw [O4, if_pos ⟨c1.1.1, c1.1.2, c1.2⟩]; rfl
theorem RStrs.mono {I I' : Heap} (hle : HLe I I') {L : Bf} {oa : Option Addr} {l : List Aq} (h : RStrs I L oa l) : RStrs I' L oa l := ⟨fun a ha => L9 hle (h.reads a ha), h.nil, h.len⟩
theorem no3 {A B C : Prop} (h : (¬ A ∨ ¬ B) ∨ ¬ C) : ¬ (A ∧ B ∧ C) := by rintro ⟨a, b, c⟩; rcases h with (h | h) | h; exact h a; exact h b; exact h c
theorem Aau {A C : Prop} {s : Bool} (h : (¬ A ∨ s = false) ∨ ¬ C) : ¬ (A ∧ s = true ∧ C) := by rintro ⟨a, b, c⟩; rcases h with (h | h) | h; exact h a; rw [h] at b; cases b; exact h c
theorem Aat {A : Prop} {s : Bool} (h : ¬ A ∨ s = false) : ¬ (A ∧ s = true) := by rintro ⟨a, b⟩; rcases h with h | h; exact h a; rw [h] at b; cases b
theorem no5 {A B C X Y : Prop} (h : ((¬ A ∧ ¬ B) ∧ ¬ C ∨ ¬ X) ∨ ¬ Y) : ¬ ((A ∨ B ∨ C) ∧ X ∧ Y) := by
 rintro ⟨a, x, y⟩
 rcases h with (⟨⟨h1, h2⟩, h3⟩ | h) | h
 ·rcases a with a | a | a; exact h1 a; exact h2 a; exact h3 a
 ·exact h x
 ·exact h y
theorem or3 {A B C : Prop} (h : (A ∨ B) ∨ C) : A ∨ B ∨ C := by rcases h with (h | h) | h; exact .inl h; exact .inr (.inl h); exact .inr (.inr h)
theorem Aae {I : Heap} {L : Bf} {oa : Option Addr} (h : Aq) (ks : List (Option Ty)) (hk : RStrs I L oa (ks.map Jf)) (hs : Add ks) (ha : Zq h ks.length) (c : Nat) :
  Fun Tryz.prog 135 [.string (str h), .slice oa (ks.map Jf).length c] I L (ST (Jf (Hg h ks)) L) := by
 have hlen := hk.len
 have hnil := hk.nil
 have hml : (ks.map Jf).length = ks.length := by simp
 have h1l : 1 ≤ ks.length := by rcases ha with ⟨o, _, h⟩ | ⟨_, h⟩ | ⟨o, _, h⟩ <;> omega
 have h2l : h ≠ Ev → h ≠ E1 → 2 ≤ ks.length := by
  intro h1 h2
  rcases ha with ⟨o, _, h⟩ | ⟨_, h⟩ | ⟨o, h, _⟩
  ·omega
  ·omega
  ·cases o
   ·exact absurd h h1
   ·exact absurd h h2
 have h3l : h = Fo → 3 ≤ ks.length := by
  rintro rfl
  rcases ha with ⟨o, h, _⟩ | ⟨_, h⟩ | ⟨o, h, _⟩
  ·exact absurd h.symm o.txt_ne.1
  ·omega
  ·exact absurd h.symm o.txt_ne.1
 have hkl : ∀ j, ((ks.map Jf).getD j []).length ≤ 80 := by
  intro j
  by_cases hj : j < ks.length
  ·rw [show (ks.map Jf).getD j [] = Jf ks[j] by simp [hj]]; exact Acc (hs _ (List.getElem_mem hj))
  ·rw [show (ks.map Jf).getD j [] = [] by simp [hj]]; simp
 have hk0 := hkl 0
 have hk1 := hkl 1
 refine Ai (by simp) ?_; refine Se rfl (Oa rfl (Aa (Ac (Se rfl (Om rfl ?_))))); refine Ca rfl (Ss hk c [] ) ?_; rintro _ _ _ _ ⟨rfl, rfl, rfl⟩; refine Aa ?_; refine Ar rfl ?_ ?_
 ·intro c0
  try simp only [nb] at c0
  refine Se rfl (Oa rfl (Aa (Ad (.tmp rfl .nil) ?_))); refine ⟨I, L, .refl _, Ax, ?_, rfl⟩
  have : Hg h ks = none := Yy (X4.1 c0)
  rw [this]; rfl
 intro c0
 try simp only [nb] at c0
 obtain ⟨ts, rfl⟩ := Tv (fun hn => c0 (X4.2 hn))
 have hts : smallL ts := fun t ht => hs (some t) (List.mem_map.2 ⟨t, ht, rfl⟩) t rfl
 have hje := Aaq (h := h) (ts := ts) (by simpa using ha) hts
 rw [← Abh] at hje; refine Ae (Se rfl (Om rfl ?_))
 first | refine A8 rfl rfl 0 rfl .free rfl ?_ | refine A9 rfl rfl 0 rfl .free rfl ?_
 refine Dv rfl .free rfl ?_; refine Ca rfl (Rb _ (by unfold Ap; omega) _ _) ?_; rintro _ J1 _ e1 ⟨rfl, rfl⟩
 have hk := hk.mono e1
 refine Om rfl ?_
 iterate 3 refine Oe rfl rfl ?_
 iterate 3 refine Oa rfl ?_
 refine Aa (Se rfl (Om rfl ?_))
 first | refine A8 rfl rfl 0 rfl .free rfl ?_ | refine A9 rfl rfl 0 rfl .free rfl ?_
 refine Dv rfl .free rfl ?_; refine Ca rfl (Pt _ (by unfold Ap; omega) _ _) ?_; rintro _ J2 _ e2 ⟨rfl, rfl⟩
 have hk := hk.mono e2
 have hle := e1.trans e2
 refine Om rfl ?_
 iterate 3 refine Oe rfl rfl ?_
 iterate 3 refine Oa rfl ?_
 refine Aa (Ac (Al (Ac ?_))); refine Cz 18 rfl rfl ?_; refine Da 0 rfl (Af rfl) ?_; refine Da 1 rfl (Kn rfl rfl rfl) ?_; refine Da 2 rfl (Af rfl) ?_
 apply Ku 34 39 rfl
 ·intro g5_3 hk
  try simp only [nb] at g5_3
  refine Dm 3 rfl (Af rfl) ?_
  first | refine Dm 4 rfl (A5 rfl rfl 0 rfl) ?_ | refine Dm 4 rfl (A6 rfl rfl 0 rfl) ?_
  refine Dl 5 [18] rfl (by kernel_rfl) rfl Aj (Ou rfl) (.met rfl rfl) rfl ?_; refine Dm 6 rfl (Kn rfl rfl rfl) ?_; refine Da 7 rfl (C0 rfl rfl) ?_
  exact Ff 4 rfl rfl hk
 ·intro _ hk; refine Ds 3 rfl rfl rfl ?_; refine Ds 4 rfl rfl rfl ?_; refine Ds 5 rfl rfl rfl ?_; refine Ds 6 rfl rfl rfl ?_; refine Da 7 rfl (Ck rfl rfl) ?_
  exact Ff 4 rfl rfl hk
 refine Da 8 rfl (Af rfl) ?_
 apply Ku 40 48 rfl
 ·intro g5_9 hk
  try simp only [nb] at g5_9
  have h3 := h3l g5_9.1
  refine Dm 9 rfl (Af rfl) ?_
  first | refine Dm 10 rfl (A5 rfl rfl 1 rfl) ?_ | refine Dm 10 rfl (A6 rfl rfl 1 rfl) ?_
  refine Dl 11 [18] rfl (by kernel_rfl) rfl Aj (Ou rfl) (.met rfl rfl) rfl ?_; refine Dm 12 rfl (Af rfl) ?_
  first | refine Dm 13 rfl (A5 rfl rfl 2 rfl) ?_ | refine Dm 13 rfl (A6 rfl rfl 2 rfl) ?_
  refine Dl 14 [18] rfl (by kernel_rfl) rfl Aj (Ou rfl) (.met rfl rfl) rfl ?_; refine Dm 15 rfl (Kn rfl rfl rfl) ?_; refine Da 16 rfl (C0 rfl rfl) ?_
  exact Ff 7 rfl rfl hk
 ·intro _ hk; refine Ds 9 rfl rfl rfl ?_; refine Ds 10 rfl rfl rfl ?_; refine Ds 11 rfl rfl rfl ?_; refine Ds 12 rfl rfl rfl ?_; refine Ds 13 rfl rfl rfl ?_; refine Ds 14 rfl rfl rfl ?_; refine Ds 15 rfl rfl rfl ?_; refine Da 16 rfl (Ck rfl rfl) ?_
  exact Ff 7 rfl rfl hk
 refine Da 17 rfl (Av rfl) ?_; refine Ao (by kernel_rfl) ?_; refine Ar rfl ?_ ?_
 ·intro c1
  try simp only [nb] at c1
  have h3 := h3l c1.1.1
  refine Se rfl (Om rfl ?_)
  first | refine A8 rfl rfl 1 rfl .free rfl ?_ | refine A9 rfl rfl 1 rfl .free rfl ?_
  refine Dv rfl .free rfl ?_; refine Oa rfl (Aa (Ad (.tmp rfl .nil) ?_)); refine ⟨J2, L, hle, Ax, ?_, rfl⟩; rw [← hje, Ig, if_pos ⟨c1.1.1, c1.1.2, c1.2⟩]; rfl
 intro c1
 try simp only [nb] at c1
 refine Se rfl (Om rfl (Od rfl rfl rfl (Om rfl ?_)))
 apply D3 55 57 rfl
 ·intro g7_3 hk
  try simp only [nb] at g7_3
  refine Ow rfl (Ot rfl rfl ?_)
  exact Ay 1 rfl rfl hk
 ·intro _ hk; refine Ba 1 rfl ?_; refine Of rfl rfl ?_
  exact Ay 1 rfl rfl hk
 refine Om rfl ?_
 apply D3 58 64 rfl
 ·intro g7_6 hk
  try simp only [nb] at g7_6
  have h2 := h2l (by rw [g7_6.1]; decide) (by rw [g7_6.1]; decide)
  refine Ow rfl (Ow rfl ?_)
  first | refine A8 rfl rfl 1 rfl (.met rfl rfl) rfl ?_ | refine A9 rfl rfl 1 rfl (.met rfl rfl) rfl ?_
  refine Dv rfl (.met rfl rfl) rfl ?_; refine Ga rfl rfl rfl (.met rfl rfl) rfl ?_; refine Ot rfl rfl ?_
  exact Ay 5 rfl rfl hk
 ·intro _ hk; refine Ba 5 rfl ?_; refine Of rfl rfl ?_
  exact Ay 5 rfl rfl hk
 refine Oa rfl (Aa ?_); refine Ar rfl ?_ ?_
 ·intro c2
  try simp only [nb] at c2
  refine Se rfl (Om rfl (Oa rfl (Aa (Ad (.tmp rfl .nil) ?_)))); refine ⟨J2, L, hle, Ax, ?_, rfl⟩; rw [← hje, Ig, if_neg (no3 (A := h = Fo) c1), if_pos ⟨c2.1.1, c2.1.2, c2.2⟩]; rfl
 intro c2
 try simp only [nb] at c2
 refine Se rfl (Om rfl (Od rfl rfl rfl (Oa rfl (Aa ?_)))); refine Ar rfl ?_ ?_
 ·intro c3
  try simp only [nb] at c3
  have h2 := h2l (by rw [c3]; decide) (by rw [c3]; decide)
  refine Ac ?_; refine Cz 12 rfl rfl ?_; refine Da 0 rfl (Af rfl) ?_
  first | refine Da 1 rfl (A5 rfl rfl 0 rfl) ?_ | refine Da 1 rfl (A6 rfl rfl 0 rfl) ?_
  refine Dt 2 [12] rfl (Ou rfl) ?_; refine Da 3 rfl (Af rfl) ?_
  first | refine Da 4 rfl (A5 rfl rfl 1 rfl) ?_ | refine Da 4 rfl (A6 rfl rfl 1 rfl) ?_
  refine Dt 5 [12] rfl (Ou rfl) ?_; refine Dc 6 rfl rfl (Ps false _ _ (by omega) (by omega) _ _) ?_; rintro _ J3 _ e3 ⟨rfl, rfl⟩; refine Hx ?_; refine Da 7 rfl (Af rfl) ?_; refine Da 8 rfl (Bs rfl rfl) ?_; refine Da 9 rfl (Bs rfl rfl) ?_; refine Da 10 rfl (Av rfl) ?_; refine Da 11 rfl (Av rfl) ?_; refine Ao (by kernel_rfl) ?_; refine Se rfl (Om rfl (Oa rfl (Aa (Ad (.tmp rfl .nil) ?_)))); refine ⟨J3, L, hle.trans e3, Ax, ?_, rfl⟩; rw [← hje, Ig, if_neg (no3 (A := h = Fo) c1), if_neg (Aau (A := h = C9) c2), if_pos (show h = Cq from c3)]; rfl
 intro c3
 try simp only [nb] at c3
 refine Se rfl (Om rfl (Od rfl rfl rfl (Om rfl ?_)))
 apply D3 83 85 rfl
 ·intro g12_3 hk
  try simp only [nb] at g12_3
  refine Ow rfl (Ot rfl rfl ?_)
  exact Ay 1 rfl rfl hk
 ·intro _ hk; refine Ba 1 rfl ?_; refine Of rfl rfl ?_
  exact Ay 1 rfl rfl hk
 refine Oa rfl (Aa ?_); refine Ar rfl ?_ ?_
 ·intro c4
  try simp only [nb] at c4
  refine Se rfl (Om rfl (Oa rfl (Aa (Ad (.tmp rfl .nil) ?_)))); refine ⟨J2, L, hle, Ax, ?_, rfl⟩; rw [← hje, Ig, if_neg (no3 (A := h = Fo) c1), if_neg (Aau (A := h = C9) c2), if_neg (show ¬ h = Cq from c3), if_pos (show h = Ev ∧ _ from c4)]; rfl
 intro c4
 try simp only [nb] at c4
 refine Se rfl (Om rfl (Od rfl rfl rfl (Om rfl ?_)))
 apply D3 90 92 rfl
 ·intro g14_3 hk
  try simp only [nb] at g14_3
  refine Ow rfl (Ot rfl rfl ?_)
  exact Ay 1 rfl rfl hk
 ·intro _ hk; refine Ba 1 rfl ?_; refine Of rfl rfl ?_
  exact Ay 1 rfl rfl hk
 refine Oa rfl (Aa ?_); refine Ar rfl ?_ ?_
 ·intro c5
  try simp only [nb] at c5
  refine Se rfl (Om rfl (Oa rfl (Aa (Ad (.tmp rfl .nil) ?_)))); refine ⟨J2, L, hle, Ax, ?_, rfl⟩; rw [← hje, Ig, if_neg (no3 (A := h = Fo) c1), if_neg (Aau (A := h = C9) c2), if_neg (show ¬ h = Cq from c3), if_neg (Aat (A := h = Ev) c4), if_pos (show h = E1 ∧ _ from c5)]; rfl
 intro c5
 try simp only [nb] at c5
 refine Se rfl (Om rfl (Od rfl rfl rfl (Om rfl ?_)))
 apply Gb 97 100 rfl
 ·intro g16_3 hk
  try simp only [nb] at g16_3
  refine Ow rfl ?_; refine Ga rfl rfl rfl (.met rfl rfl) rfl ?_; refine Of rfl rfl ?_
  exact Ay 2 rfl rfl hk
 ·intro _ hk; refine Ba 2 rfl ?_; refine Ot rfl rfl ?_
  exact Ay 2 rfl rfl hk
 refine Om rfl ?_
 apply Gb 101 104 rfl
 ·intro g16_7 hk
  try simp only [nb] at g16_7
  refine Ow rfl ?_; refine Ga rfl rfl rfl (.met rfl rfl) rfl ?_; refine Of rfl rfl ?_
  exact Ay 2 rfl rfl hk
 ·intro _ hk; refine Ba 2 rfl ?_; refine Ot rfl rfl ?_
  exact Ay 2 rfl rfl hk
 refine Om rfl ?_
 apply D3 105 110 rfl
 ·intro g16_11 hk
  try simp only [nb] at g16_11
  refine Ow rfl ?_
  first | refine A8 rfl rfl 0 rfl (.met rfl rfl) rfl ?_ | refine A9 rfl rfl 0 rfl (.met rfl rfl) rfl ?_
  refine Dv rfl (.met rfl rfl) rfl ?_; refine Ga rfl rfl rfl (.met rfl rfl) rfl ?_; refine Ot rfl rfl ?_
  exact Ay 4 rfl rfl hk
 ·intro _ hk; refine Ba 4 rfl ?_; refine Of rfl rfl ?_
  exact Ay 4 rfl rfl hk
 refine Om rfl ?_
 apply D3 111 116 rfl
 ·intro g16_17 hk
  try simp only [nb] at g16_17
  have h2 : 2 ≤ (ts.map some).length := h2l (by rcases g16_17.1 with (h | h) | h <;> rw [h] <;> decide) (by rcases g16_17.1 with (h | h) | h <;> rw [h] <;> decide)
  refine Ow rfl ?_
  first | refine A8 rfl rfl 1 rfl (.met rfl rfl) rfl ?_ | refine A9 rfl rfl 1 rfl (.met rfl rfl) rfl ?_
  refine Dv rfl (.met rfl rfl) rfl ?_; refine Ga rfl rfl rfl (.met rfl rfl) rfl ?_; refine Ot rfl rfl ?_
  exact Ay 4 rfl rfl hk
 ·intro _ hk; refine Ba 4 rfl ?_; refine Of rfl rfl ?_
  exact Ay 4 rfl rfl hk
 refine Oa rfl (Aa ?_); refine Ar rfl ?_ ?_
 ·intro c6
  try simp only [nb] at c6
  refine Se rfl (Oa rfl (Aa (Ad (.tmp rfl .nil) ?_))); refine ⟨J2, L, hle, Ax, ?_, rfl⟩; rw [← hje, Ig, if_neg (no3 (A := h = Fo) c1), if_neg (Aau (A := h = C9) c2), if_neg (show ¬ h = Cq from c3), if_neg (Aat (A := h = Ev) c4), if_neg (Aat (A := h = E1) c5), if_pos ⟨or3 c6.1.1, c6.1.2, c6.2⟩]; rfl
 intro c6
 try simp only [nb] at c6
 refine Ae (Ak (Se rfl (Oa rfl (Aa (Ad (.tmp rfl .nil) ?_))))); refine ⟨J2, L, hle, Ax, ?_, rfl⟩; rw [← hje, Ig, if_neg (no3 (A := h = Fo) c1), if_neg (Aau (A := h = C9) c2), if_neg (show ¬ h = Cq from c3), if_neg (Aat (A := h = Ev) c4), if_neg (Aat (A := h = E1) c5), if_neg (no5 c6)]; rfl
end Go.Proofs.YtfddjcmeejjhiaaGreatDoor
