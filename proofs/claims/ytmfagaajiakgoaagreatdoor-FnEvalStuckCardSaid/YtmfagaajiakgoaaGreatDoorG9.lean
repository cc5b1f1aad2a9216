/- The draws' reader: its picks are within bounds. No conditions. -/
import Derived.Test.YtmfagaajiakgoaaGreatDoorG8

namespace Go.Proofs.YtmfagaajiakgoaaGreatDoor
set_option maxRecDepth 100000
set_option linter.unusedVariables false
set_option linter.unusedSimpArgs false

theorem Bytes.take {I : Heap} {oa : Option Addr} {l : List UInt8} {c : Nat} (h : Bytes I oa l c) (m : Nat) (hm : m ≤ l.length) : Bytes I (if c = 0 then oa else oa.map (·.add (0 * 1))) (l.take m) (c - 0) := by
  have e : (if c = 0 then oa else oa.map (·.add (0 * 1))) = oa := by
    have : ∀ x : Addr, x.add (0 * 1) = x := fun x => by simp [Addr.add]
    cases oa <;> simp [this]
  rw [e]
  refine ⟨fun x hx => ?_, fun hx => by rw [h.nil hx]; simp, by have := h.cap; simp; omega, by have := h.len; simp; omega⟩
  rcases h.still x hx with h0 | ⟨cc, T, fr, hb, hs, hc⟩
  · exact .inl (by have : l = [] := by simpa using h0
                   simp [this])
  · refine .inr ⟨cc, T, fr, hb, hs, fun i hi => ?_⟩
    simp only [List.length_map, List.length_take] at hi
    rw [hc i (by simp; omega)]
    simp

def rd (b : Nat) (oa : Option Addr) (l : List UInt8) (c p : Nat) : Nat × Obj := (b, .cells [.slice oa l.length c, .int .i64 (p : Nat)].toArray 94 (0, 0))
def OP (L : Bs) : C8 := fun v I' L' => ∃ b oa l c, v = .pointer (some ⟨b, 0, none⟩) ∧ Bytes I' oa l c ∧ l.length ≤ 2000 ∧ L' = rd b oa l c 0 :: L
theorem Wj       {I : Heap} {oa : Option Addr} {l : List UInt8} {c : Nat} (h : Bytes I oa l c) (L : Bs ) : Fun Tryz.prog 40 [.slice oa l.length c] I L (OP L) := by
  have hlen := h.len
  have hcap := h.cap
  refine Ao        (by simp) ?_
  refine Se rfl (Oa rfl (Aa     (Ag    (Se rfl (Om rfl (On rfl (Oc rfl rfl rfl (Aa     ?_))))))))
  refine Si rfl ?_ ?_
  · intro c0
    refine Am      rfl (Om rfl ?_)
    refine K6            rfl rfl rfl 0 2000 rfl rfl (by omega) .free rfl ?_
    refine Oa rfl (Aa     (Se rfl (Om rfl ?_)))
    refine Bz       rfl rfl rfl .free rfl ?_
    refine Cj    rfl rfl .free rfl ?_
    intro b10
    refine Oa rfl (Aa     (Ai    (.tmp rfl .nil) ?_))
    first
      | exact ⟨I, _, .refl _, fun _ h => h, _, oa, l, c, rfl, h, by omega, rfl⟩
      | (have h2 := h.take 2000 (by omega)
         have e : (l.take 2000).length = 2000 - 0 := by simp; omega
         exact ⟨I, _, .refl _, fun _ h => h, _, _, l.take 2000, c - 0, rfl, h2, by omega, by unfold rd; rw [e]; rfl⟩)
  intro c0
  refine Ak     (Se rfl (Om rfl ?_))
  refine Bz       rfl rfl rfl .free rfl ?_
  refine Cj    rfl rfl .free rfl ?_
  intro b10
  refine Oa rfl (Aa     (Ai    (.tmp rfl .nil) ?_))
  first
    | exact ⟨I, _, .refl _, fun _ h => h, _, oa, l, c, rfl, h, by omega, rfl⟩
    | (have h2 := h.take 2000 (by omega)
       have e : (l.take 2000).length = 2000 - 0 := by simp; omega
       exact ⟨I, _, .refl _, fun _ h => h, _, _, l.take 2000, c - 0, rfl, h2, by omega, by unfold rd; rw [e]; rfl⟩)

def PK (b : Nat) (oa : Option Addr) (l : List UInt8) (c p n : Nat) (I : Heap) (L : Bs) : C8 := fun v I' L' => ∃ r : Nat, v = .int .i64 (r : Nat) ∧ I = I' ∧ L' = rd b oa l c (p + 1) :: L ∧ (r < n ∨ r = 0)
theorem C5 {I : Heap} {oa : Option Addr} {l : List UInt8} {c : Nat} (h : Bytes I oa l c) (hl : l.length ≤ 2000) (b p n : Nat) (hp : p ≤ 1099511627776) (hn : n ≤ 4294967296) (L : Bs) :
  Fun Tryz.prog 50 [.pointer (some ⟨b, 0, none⟩), .int .i64 (n : Nat)] I (rd b oa l c p :: L) (PK b oa l c p n I L) := by
 unfold rd
 refine Ao Af ?_; refine Se rfl (Oa rfl (Aa (Se rfl (Om rfl (Om rfl ?_))))); refine A1 rfl .free rfl ?_
 first | refine Oh rfl ?_ | refine Oj rfl ?_
 refine C1 rfl .free rfl ?_; refine Or rfl rfl rfl ?_; refine A1 rfl .free rfl ?_
 first | refine Oh rfl ?_ | refine Oj rfl ?_
 refine Bo rfl rfl rfl rfl .free ?_; refine Aa (Ag (Se rfl (Om rfl (Oc rfl rfl rfl (Om rfl ?_)))))
 first | refine G7 rfl rfl ?_ ?_ | refine Fd rfl rfl ?_ ?_ | refine L9 rfl rfl ?_ ?_
 ·intro g2_3
  iterate 6 refine Ct rfl rfl rfl ?_
  refine Ot rfl rfl (Aa ?_); refine By rfl ?_; refine Se rfl (Oa rfl (Aa (Ai (.tmp rfl .nil) ?_)))
  exact ⟨I, _, .refl _, fun _ h => h, 0, rfl, rfl, rfl, .inr rfl⟩
 intro g2_3; refine Ow rfl ?_; refine A1 rfl (.met rfl rfl) rfl ?_
 first | refine A2 rfl (.met rfl rfl) rfl ?_ | refine Bn rfl (.met rfl rfl) rfl ?_
 refine C1 rfl (.met rfl rfl) rfl ?_; refine Id rfl (.met rfl rfl) rfl ?_; refine D6 rfl rfl rfl (.met rfl rfl) rfl ?_; refine Of rfl rfl (Aa ?_); refine Si rfl ?_ ?_
 ·intro c0; refine Se rfl (Oa rfl (Aa (Ai (.tmp rfl .nil) ?_)))
  exact ⟨I, _, .refl _, fun _ h => h, 0, rfl, rfl, rfl, .inr rfl⟩
 intro c0; refine Ak (Se rfl (Om rfl ?_)); refine A1 rfl .free rfl ?_
 first | refine Oh rfl ?_ | refine Oj rfl ?_
 refine C1 rfl .free rfl ?_; refine Or rfl rfl rfl ?_; refine Oa rfl (Aa (Ag (Ag ?_))); refine K2 (t := 5) (v' := .int .i64 (p : Nat)) rfl Eu ?_; refine Am rfl (Om rfl (Om rfl ?_)); refine A1 rfl .free rfl ?_
 first | refine Oh rfl ?_ | refine Oj rfl ?_
 refine C1 rfl .free rfl ?_; refine On rfl (Oc rfl rfl rfl (Aa ?_)); refine Si rfl ?_ ?_
 ·intro c1; obtain ⟨x, hx, hst⟩ := h.at p Ab; refine Se rfl (Om rfl ?_); refine A1 rfl .free rfl ?_
  first | refine Oh rfl ?_ | refine Oj rfl ?_
  refine C1 rfl .free rfl ?_; refine Om rfl ?_; refine Cp rfl rfl _ rfl B8 Dr .free rfl ?_; refine C1 rfl .free rfl ?_; refine Nd rfl (by first | exact UInt8.toNat_lt _ | omega) .free rfl ?_; refine Om rfl ?_; refine Afb rfl rfl Ab .free rfl ?_; refine Oa rfl (Aa (Ai (.tmp rfl .nil) ?_))
  exact ⟨I, _, .refl _, fun _ h => h, _, rfl, rfl, rfl, .inl (Nat.mod_lt _ Ab)⟩
 intro c1
 have hpos : 0 < l.length := by omega
 obtain ⟨r1, hr1, hr1l⟩ : ∃ r, r = p % l.length ∧ r < l.length := ⟨_, rfl, Nat.mod_lt _ hpos⟩; obtain ⟨r2, hr2, hr2l⟩ : ∃ r, r = (p * 7 + 3) % l.length ∧ r < l.length := ⟨_, rfl, Nat.mod_lt _ hpos⟩; obtain ⟨q, hq, hqp⟩ : ∃ q, q = p / l.length ∧ q ≤ p := ⟨_, rfl, Nat.div_le_self _ _⟩; obtain ⟨x1, hx1, u1, hu1, hst1⟩ : ∃ x, oa = some x ∧ ∃ u : Nat, u < 256 ∧ Still I (x.add (r1 * 1)) [.int .u8 (u : Nat)] := by
  obtain ⟨x, hx, hst⟩ := h.at r1 hr1l
  exact ⟨x, hx, _, UInt8.toNat_lt _, hst⟩
 obtain ⟨u2, hu2, hst2⟩ : ∃ u : Nat, u < 256 ∧ Still I (x1.add (r2 * 1)) [.int .u8 (u : Nat)] := by
  obtain ⟨x, hx, hst⟩ := h.at r2 hr2l; obtain rfl : x1 = x := by rw [hx1] at hx; exact Option.some.inj hx
  exact ⟨_, UInt8.toNat_lt _, hst⟩
 clear h
 refine Ak (Ag ?_); refine Dj 46 rfl rfl ?_; refine Da 0 rfl (Al rfl) ?_; refine Da 1 rfl (Ef rfl) ?_
 first | refine Da 2 rfl (Ap rfl) ?_ | refine Da 2 rfl (Bf rfl) ?_
 refine Dt 3 [46] rfl (Og rfl) ?_; refine Da 4 rfl (Al rfl) ?_; refine Da 5 rfl (Al rfl) ?_; refine Da 6 rfl (Ef rfl) ?_
 first | refine Da 7 rfl (Ap rfl) ?_ | refine Da 7 rfl (Bf rfl) ?_
 refine Dt 8 [46] rfl (Og rfl) ?_; refine Da 9 rfl (Gm rfl) ?_; refine Da 10 rfl (Zq rfl rfl Ab) ?_; refine E2 (t := 57) rfl (v' := .int .i64 (r1 : Nat)) (by rw [hr1]) ?_; refine Gq 11 rfl Ac rfl (.inr As) (Io rfl rfl _ rfl B8 Dr) .free rfl ?_; refine Dt 12 [46] rfl (Og rfl) ?_; refine Gq 13 rfl Ac rfl (.inr As) (P8 rfl (by first | exact UInt8.toNat_lt _ | omega)) .free rfl ?_; refine Da 14 rfl (H1 rfl rfl rfl Ab) ?_; refine Da 15 rfl (Al rfl) ?_; refine Da 16 rfl (Ef rfl) ?_
 first | refine Da 17 rfl (Ap rfl) ?_ | refine Da 17 rfl (Bf rfl) ?_
 refine Dt 18 [46] rfl (Og rfl) ?_; refine Da 19 rfl (Al rfl) ?_; refine Da 20 rfl (H1 rfl rfl rfl Ab) ?_; refine Da 21 rfl (H1 rfl rfl rfl Ab) ?_; refine Da 22 rfl (Al rfl) ?_; refine Da 23 rfl (Ef rfl) ?_
 first | refine Da 24 rfl (Ap rfl) ?_ | refine Da 24 rfl (Bf rfl) ?_
 refine Dt 25 [46] rfl (Og rfl) ?_; refine Da 26 rfl (Gm rfl) ?_; refine E2 (t := 68) rfl (v' := .int .i64 ((p * 7 + 3 : Nat))) (by congr 1) ?_; refine Da 27 rfl (Zq rfl rfl Ab) ?_; refine E2 (t := 74) rfl (v' := .int .i64 (r2 : Nat)) (by rw [hr2]) ?_; refine Gq 28 rfl Ac rfl (.inr As) (Io rfl rfl _ rfl B8 Dr) .free rfl ?_; refine Dt 29 [46] rfl (Og rfl) ?_; refine Gq 30 rfl Ac rfl (.inr As) (P8 rfl (by first | exact UInt8.toNat_lt _ | omega)) .free rfl ?_; refine Da 31 rfl (H1 rfl rfl rfl Ab) ?_; refine Da 32 rfl (H1 rfl rfl rfl Ab) ?_; refine Da 33 rfl (Al rfl) ?_
 refine Da 34 rfl (H1 rfl rfl rfl Ab) ?_; refine Da 35 rfl (H1 rfl rfl rfl Ab) ?_; refine Da 36 rfl (Al rfl) ?_; refine Da 37 rfl (Al rfl) ?_; refine Da 38 rfl (Ef rfl) ?_
 first | refine Da 39 rfl (Ap rfl) ?_ | refine Da 39 rfl (Bf rfl) ?_
 refine Dt 40 [46] rfl (Og rfl) ?_; refine Da 41 rfl (Gm rfl) ?_; refine Da 42 rfl (Adw rfl rfl Ab Ab) ?_; refine E2 (t := 89) rfl (v' := .int .i64 (q : Nat)) (by rw [hq]) ?_; refine Da 43 rfl (H1 rfl rfl rfl Ab) ?_; refine Da 44 rfl (H1 rfl rfl rfl Ab) ?_; refine Da 45 rfl (Ay rfl) ?_; refine Au Ac ?_; refine Ag ?_; obtain ⟨m, hm, hm2⟩ : ∃ m : Nat, (m : Int) = ↑u1 * 131 + ↑u2 * 1117 + ↑p * 29 + ↑q * 53 ∧ m ≤ 1152921504606846976 := ⟨u1 * 131 + u2 * 1117 + p * 29 + q * 53, by omega, by omega⟩; refine K2 (t := 6) (v' := .int .i64 (m : Nat)) rfl Eu ?_; refine Am rfl (Om rfl (Om rfl ?_))
 refine Adc (b := 64) rfl rfl Ab Ab .free rfl ?_; refine Agh rfl rfl Ab Ab .free rfl ?_; refine Oa rfl (Aa (Se rfl (Om rfl (Om rfl ?_)))); refine Afb rfl rfl Ab .free rfl ?_; refine Oa rfl (Aa (Ai (.tmp rfl .nil) ?_))
 exact ⟨I, _, .refl _, fun _ h => h, _, rfl, rfl, rfl, .inl (Nat.mod_lt _ Ab)⟩
def OF (b : Nat) (oa : Option Addr) (l : List UInt8) (c p : Nat) (ts : List Av) (I : Heap) (L : Bs) : C8 := fun v I' L' => ∃ s, v = .string (str s) ∧ s ∈ ts ∧ I = I' ∧ L' = rd b oa l c (p + 1) :: L
theorem Ey {I : Heap} {oa : Option Addr} {l : List UInt8} {c : Nat} (h : Bytes I oa l c) (hl : l.length ≤ 2000) (b p : Nat) (hp : p ≤ 1099511627776) {ob : Option Addr} {ts : List Av} {c' : Nat} (hts : Strs I ob ts c') (hne : ts ≠ []) (L : Bs) :
  Fun Tryz.prog 80 [.pointer (some ⟨b, 0, none⟩), .slice ob ts.length c'] I (rd b oa l c p :: L) (OF b oa l c p ts I L) := by
 have hlen := hts.len
 unfold A9 at hlen
 have hpos := List.length_pos_iff.2 hne
 refine Ao Af ?_; refine Se rfl (Oa rfl (Aa (Se rfl ?_)))
 iterate 3 refine Om rfl ?_
 refine On rfl ?_; refine Ca rfl (C5 h hl b p ts.length hp hlen L) ?_; rintro _ _ _ _ ⟨r, rfl, rfl, rfl, hr⟩; obtain ⟨x, hx, hst⟩ := hts.at r Ab; refine Cp rfl rfl _ rfl B8 Dr .free rfl ?_; refine C1 rfl .free rfl ?_; refine Oa rfl (Aa (Ai (.tmp rfl .nil) ?_))
 exact ⟨I, _, .refl _, fun _ h => h, _, rfl, List.getElem_mem _, rfl, rfl⟩

def LS1 (l : List Av) (L : Bs) : C8 := fun v I' L' => ∃ oa c, v = .slice oa (List.length l) c ∧ Strs I' oa l c ∧ L = L'
theorem Jd {I : Heap} {oa ob : Option Addr} {l m : List Av} {c c' : Nat} (h : Strs I oa l c) (h' : Strs I ob m c') (hlm : l.length + m.length ≤ A9) (L : Bs) :
  Fun Tryz.prog 148 [.slice oa l.length c, .slice ob m.length c'] I L (LS1 (l ++ m) L) := by
 unfold A9 at hlm
 refine Ao Af ?_; refine Se rfl (Oa rfl (Aa (Se rfl ?_))); refine Eo .free rfl ?_; intro b5; refine Om rfl ?_; refine I0 (B := some (b5, [])) (xs := []) (ys := l.map sv) (m := 0) (c := 0) A5 Ae rfl rfl ⟨rfl, Nat.le_refl _, rfl⟩ (fun _ h => h) Af h.reads h.none (Ee l) Ad Ab Ad .free rfl ?_; intro B1 c1 hB1; refine Om rfl ?_; refine I0 (B := B1) (xs := [] ++ l.map sv) (ys := m.map sv) (m := 0 + l.length) (c := c1) A5 Ae rfl rfl hB1 (fun _ h => h) Af h'.reads h'.none (Ee m) Ad Ab Ad .free rfl ?_; intro B2 c2 hB2; rw [List.nil_append, ← List.map_append] at hB2 ⊢; refine Oa rfl (Aa ?_)
 refine Ho hB2 Af Hh (fun s hs => by rcases List.mem_append.1 hs with hs | hs; exact h.each s hs; exact h'.each s hs) ?_; intro I2 oc c3 hle hv hst; refine Ai (.tmp rfl .nil) ?_
 exact ⟨I2, L, hle, fun _ h => h, oc, c3, hv, hst, rfl⟩

def EV (b : Nat) (oa : Option Addr) (l : List UInt8) (c p : Nat) (L : Bs) : C8 := fun v I' L' => ∃ o1 n1 c1 o2 n2 c2, v = .tuple #[.slice o1 (List.length n1) c1, .slice o2 (List.length n2) c2] ∧ Strs I' o1 n1 c1 ∧ Strs I' o2 n2 c2 ∧ n1.length ≤ 16 ∧ n2.length ≤ 16 ∧ (∀ s ∈ n1, s.length ≤ 16) ∧ (∀ s ∈ n2, s.length ≤ 16) ∧ L' = rd b oa l c (p + 1) :: L
theorem Pb {I : Heap} {b : Nat} {l : List Av} {e : TypeId} (hlen : l.length ≤ A9) (hs : ∀ s ∈ l, s.length ≤ A9) : Strs (I.set b (.cells (l.map sv).toArray e (0, 0))) (some ⟨b, 0, none⟩) l l.length :=
 ⟨fun y hy => by cases hy; simpa using Bp (xs := l.map sv) (ys := []), by simp, Nat.le_refl _, hlen, hs⟩
theorem En {P : Program} {f : FuncId} {n : Nat} {I₀ : Heap} {Q : C8} {k : List Item} {E : Hy} {I : Heap} {L : Bs} {ops : Array Oper} {ol : List Oper} {e : TypeId} {b : Nat} (l : List Av) (hlen : l.length ≤ A9) (hs : ∀ s ∈ l, s.length ≤ A9)
  (h : ∀ I', HLe I I' → Strs I' (some ⟨b, 0, none⟩) l l.length → Be P f n I₀ Q ops ol k E I' L) : Be P f n I₀ Q ops ol k E I ((b, .cells (l.map sv).toArray e (0, 0)) :: L) :=
 Ac9 fun hle => h _ hle (Pb hlen hs)
def DE (L : Bs) : C8 := fun v I' L' => ∃ o1 n1 c1 o2 n2 c2, v = .tuple #[.slice o1 (List.length n1) c1, .slice o2 (List.length n2) c2] ∧ Strs I' o1 n1 c1 ∧ Strs I' o2 n2 c2 ∧ n1.length ≤ 16 ∧ n2.length ≤ 16 ∧ (∀ s ∈ n1, s.length ≤ 16) ∧ (∀ s ∈ n2, s.length ≤ 16) ∧ L = L'
def DL (L : Bs) : C8 := fun v I' L' => ∃ o1 n1 c1 o2 n2 c2 s, v = .tuple #[.slice o1 (List.length n1) c1, .slice o2 (List.length n2) c2, .string (str s)] ∧ Strs I' o1 n1 c1 ∧ Strs I' o2 n2 c2 ∧ n1.length ≤ 16 ∧ n2.length ≤ 16 ∧ (∀ s ∈ n1, s.length ≤ 16) ∧ (∀ s ∈ n2, s.length ≤ 16) ∧ s.length ≤ 16 ∧ L = L'
theorem Acr {I : Heap} {e : TypeId} {ts : List Ty} {xs : List Value} {B : K9} {c : Nat} (hl : RepL I (ts.map Ty.tree) xs) (hB : E6 2 ts.length c xs B) :
  ∃ oh c', Ch ts.length c B = .slice oh ts.length c' ∧ ∀ L0, Have I (Cn e xs B ++ L0) oh ts := by
 cases B with
 | none =>
  obtain ⟨h1, h2, h3⟩ := hB; refine ⟨none, 0, by rw [h2]; rfl, fun L0 => ⟨fun k hk => by omega, fun _ => h2⟩⟩
 | some p =>
  obtain ⟨b, sp⟩ := p; refine ⟨some ⟨b, 0, none⟩, c, rfl, fun L0 => ⟨fun k hk => ?_, by simp⟩⟩; obtain ⟨c1, c2, h1, h2, h3⟩ := hl.get k (by simpa using hk); rw [List.getElem_map] at h1; obtain ⟨o1, k1, _, he, _⟩ := h1.open
  simp only [List.cons.injEq, and_true] at he
  obtain ⟨rfl, rfl⟩ := he; refine ⟨o1, k1, h1, fun w hw i hi => ?_⟩
  have e : ((U4 (some ⟨b, 0, none⟩)).add (k * 2)).add i = Addr.add ⟨b, 0, none⟩ (k * 2 + i) := Y6 _ _ _
  rw [e, M3 (hw.2.1 _ (List.mem_append_left _ (List.mem_singleton.2 rfl))).1]
  have hlen := hl.length
  simp only [Nat.zero_add, List.getElem?_toArray]
  simp only [List.length_map] at hlen
  match i, hi with
  | 0, _ => rw [List.getElem?_append_left Ab]; simpa using h2
  | 1, _ => rw [List.getElem?_append_left Ab]; simpa using h3
def TOm (r : Except Ex Ty) (ok : Bool) (u w : Tree) : Prop := match r with
 | .ok t => ok = true ∧ u = t.tree
 | .error x => ok = false ∧ w = x.tree
def TO (r : Except Ex Ty) (L : Bs) : C8 := fun v I' L' => ∃ u cs w ds ok, v = .tuple #[.agg cs.toArray, .agg ds.toArray, .bool ok] ∧ Rep I' u cs ∧ Rep I' w ds ∧ L = L' ∧ TOm r ok u w
theorem Afd {r : Except Ex Ty} {ok : Bool} {u w : Tree} (h : TOm r ok u w) (hok : ok = true) : ∃ t, r = .ok t ∧ u = t.tree := by
 cases r with
 | ok t => exact ⟨t, rfl, h.2⟩
 | error x => rw [hok] at h; cases h.1
theorem Afc {r : Except Ex Ty} {ok : Bool} {u w : Tree} (h : TOm r ok u w) (hok : ok = false) : ∃ x, r = .error x ∧ w = x.tree := by
 cases r with
 | ok t => rw [hok] at h; cases h.1
 | error x => exact ⟨x, rfl, h.2⟩
theorem R6 {e : Ex} {r : Option Ty} {ok : Bool} {u : Tree} (h : match r with | some t => ok = true ∧ u = t.tree | none => ok = false) : TOm (e.fin r) (ok && u.typed) u e.tree := by
 cases r with
 | none => exact ⟨by rw [h]; rfl, rfl⟩
 | some t =>
  obtain ⟨rfl, rfl⟩ := h
  simp only [Ex.fin, Ty.tree_typed, Bool.true_and]
  by_cases hz : t.size ≤ 16
  ·rw [if_pos hz]; exact ⟨by simp [hz], rfl⟩
  ·rw [if_neg hz]; exact ⟨by simp [hz], rfl⟩
theorem X3 {I : Heap} {e : Ex} {f x : Av} {s t : Ty} {b : Ex} {cs : List Value} (he : e = .fn f x s t b) (hok : e.ok = true) (h : Rep I (Ty.fn s t).tree cs) (L : Bs) : Fun Tryz.prog 107 [.agg cs.toArray] I L (Er (.bool e.funOk) I L) := by
 subst he
 simp only [Ex.ok, Bool.and_eq_true, decide_eq_true_eq] at hok
 have := Hj h (by rw [Ty.tree_size]; simp only [Ty.size]; unfold A9; have := hok.1.1.2; have := hok.1.2; omega) L
 rwa [Ty.tree_typed] at this
structure TR where
 J : Heap
 b1 : Nat
 b2 : Nat
 u : Tree
 w : Tree
 o1 : Option Addr
 k1 : Nat
 o2 : Option Addr
 k2 : Nat
 ok : Bool
structure TG where
 J : Heap
 ts : List Ty
 xs : List Value
 B : K9
 c : Nat
def TG.is (e : Ex) (l : List Av) (m : List Ty) (J0 : Heap) (x : TG) : Prop := HLe J0 x.J ∧ x.ts.length ≤ e.sub.length ∧ RepL x.J (x.ts.map Ty.tree) x.xs ∧ E6 2 x.ts.length x.c x.xs x.B ∧ smallL x.ts ∧
 e.runs l m = e.run l m (e.sub.drop x.ts.length) ((Cx e.tree).drop x.ts.length) x.ts

set_option maxHeartbeats 1000000 in
theorem Uk : ∀ (n : Nat) {I : Heap} {l : List Av} {m : List Ty} {oa ob : Option Addr} {c c' : Nat} {e : Ex} {cs : List Value} (_ : SizeOf.sizeOf e < n) (_ : EnvAt I l m oa c ob c') (_ : Rep I e.tree cs) (_ : e.ok = true) (_ : l.length + 2 * e.size ≤ A9) (L : Bs),
  Fun Tryz.prog 61 [.agg [.slice oa l.length c, .slice ob (m.map Ty.tree).length c'].toArray, .agg cs.toArray] I L (TO (e.chk l m) L) := by
 intro n
 induction n with
 | zero => intro I l m oa ob c c' e cs h; omega
 | succ n ihn =>
  intro I l m oa ob c c' e cs hlt he h hok hroom L; obtain ⟨oc, cc, oaf, cf, rfl, hf⟩ := h.at'
  have hle : HLe I I := .refl _
  have hsm := he.small
  have hsp := e.size_pos
  unfold A9 at hroom
  have hp := hf.len
  unfold A9 at hp
  refine Ao Af ?_; refine Se rfl ?_; refine Cj rfl rfl .free rfl ?_; intro b2; refine Cj rfl rfl .free rfl ?_; intro b3; refine Az .free rfl ?_; intro b4; refine Az .free rfl ?_; intro b5; refine Oa rfl (Aa (Ag (Se rfl ?_))); refine A7 rfl .free rfl ?_; refine Ca rfl (Bq hf.rep _) ?_; rintro _ _ _ _ ⟨rfl, rfl, rfl⟩; refine Od rfl rfl rfl (Om rfl ?_)
  apply Cz 18 23 rfl
  ·intro g1_4 hk
   try simp only [nb] at g1_4
   obtain ⟨f, x, s, t, b, hfe⟩ := Ex.of_fun g1_4; refine A7 rfl (.met rfl rfl) rfl ?_; refine Cq rfl (.met rfl rfl) rfl (Pk (f := f) (x := x) (s := s) (t := t) (b := b) (Jm hf.rep (by rw [hfe])) _) ?_; rintro _ J _ e0 ⟨cs1, rfl, h1, rfl⟩; obtain ⟨o1, k1, _, rfl, -⟩ := h1.open; refine Cq rfl (.met rfl rfl) rfl (X3 hfe hok h1 _) ?_; rintro _ _ _ _ ⟨rfl, rfl, rfl⟩; refine Ep (fun w h => Mem.le e0 h) ?_; refine C0 rfl (.met rfl rfl) rfl ?_; refine Ot rfl rfl ?_
   exact Ax 4 rfl rfl hk
  ·intro _ hk; refine A4 4 rfl ?_; refine Of rfl rfl ?_
   exact Ax 4 rfl rfl hk
  refine Aa ?_; refine Aw rfl ?_ ?_
  ·intro c0
   try simp only [nb] at c0
   have hbig := Ad0 (l := l) (m := m) c0.2
   refine Ag ?_; refine Dj 5 rfl rfl ?_; refine Da 0 rfl (E1 rfl rfl rfl) ?_; refine Cw 1 2 Ac ?_ ?_
   ·skip
    refine Dz 1 rfl rfl (Ck rfl) .free rfl (.inr As) ?_; refine Dx 2 rfl rfl rfl rfl ?_; refine Dx 3 rfl rfl rfl rfl ?_; refine Db 4 rfl (Ay rfl) ?_; refine Au Ac ?_; refine Ai (.c rfl (.c rfl (.tmp rfl .nil))) ?_
    exact ⟨I, L, .refl _, Ba, Wu, _, _, _, false, rfl, Ng _, hf.rep, rfl, by rw [hbig]; exact ⟨rfl, rfl⟩⟩
   ·skip
    refine Ip 2 rfl rfl rfl rfl rfl rfl .free (.inl Ac) ?_; refine Fg 1 rfl Ac rfl (Ck rfl) .free rfl (.inl Ac) ?_; refine Dx 3 rfl rfl rfl rfl ?_; refine Db 4 rfl (Ay rfl) ?_; refine Au Ac ?_; refine Ai (.c rfl (.c rfl (.tmp rfl .nil))) ?_
    exact ⟨I, L, .refl _, Ba, Wu, _, _, _, false, rfl, Ng _, hf.rep, rfl, by rw [hbig]; exact ⟨rfl, rfl⟩⟩
  intro c0
  try simp only [nb] at c0
  have hfo : e.funOk = true := by
   rcases c0 with h | h
   ·cases e with
    | fn f x s t b => exact absurd rfl h
    | _ => rfl
   ·exact h
  have hfn := Acc hfo
  have hchk := Abw (l := l) hok hsm hfo
  refine Ak (Se rfl (Oa rfl (Aa (Ag (Se rfl ?_))))); refine A7 rfl .free rfl ?_; refine Ca rfl (Ew hf.rep _) ?_; rintro _ J0 _ e1 ⟨ok, ck, rfl, hk, rfl⟩
  have hf := hf.mono e1
  have he := he.mono e1
  have hkl := Zp e
  refine On rfl (Om rfl (Aa (Aq ?_)))
  refine D1 (X := TG) (fun x => e.sub.length - x.ts.length) (fun x => [(2, .pointer (some ⟨b2, 0, none⟩)), (3, .pointer (some ⟨b3, 0, none⟩)), (4, .pointer (some ⟨b4, 0, none⟩)), (5, .pointer (some ⟨b5, 0, none⟩)), (6, .bool false), (7, Ch x.ts.length x.c x.B), (27, .slice ok (Cx e.tree).length ck), (28, .int .i64 ((Cx e.tree).length : Nat)), (29, .int .i64 (x.ts.length : Nat))]) (fun x => x.J) (fun x => Cn 49 x.xs x.B ++ ((b5, .cells [.string (str []), .slice none 0 0].toArray 49 (0, 0)) :: (b4, .cells [.string (str []), .slice none 0 0].toArray 49 (0, 0)) :: (b3, .cells [.string (str e.tree.atom), .slice oc e.tree.parts.length cc].toArray 49 (0, 0)) :: (b2, .cells [.slice oa l.length c, .slice ob (m.map Ty.tree).length c'].toArray 84 (0, 0)) :: L)) (TG.is e l m J0) ⟨J0, [], [], none, 0⟩ ⟨.refl _, Nat.zero_le _, .nil, ⟨rfl, rfl, rfl⟩, (fun _ h => by cases h), rfl⟩ ⟨rfl, rfl, rfl, rfl, rfl, rfl, rfl, rfl, rfl, trivial⟩ (fun _ h => h) ?_
  rintro ⟨J, ts, xs, B, cb⟩ ⟨ez, hi, hl, hB, hst, hrun⟩ ih
  simp only at ez hi hl hB hst hrun ih ⊢
  have hf := hf.mono ez
  have he := he.mono ez
  have hk := hk.mono ez
  have hle := e1.trans ez
  obtain ⟨oh, ch, hbv, hh⟩ := Acr (e := 49) hl hB; refine K2 (t := 7) (v' := .slice oh ts.length ch) rfl hbv ?_
  have hn3 : e.sub.length ≤ 3 := by cases e <;> simp [Ex.sub]
  refine Se rfl (Oc rfl rfl rfl (Aa (Ag ?_))); refine Aw rfl ?_ ?_
  ·intro c1
   try simp only [nb] at c1
   have hi1 : ts.length < e.sub.length := by omega
   have hkm : (Cx e.tree).getD ts.length 0 ∈ Cx e.tree := by rw [show (Cx e.tree).getD ts.length 0 = (Cx e.tree)[ts.length]'(by omega) by simp [show ts.length < (Cx e.tree).length by omega]]; exact List.getElem_mem _
   have hkt := (Zj hkm).1
   obtain ⟨hs1, hs2, hs3⟩ := Aa8 (List.getElem_mem hi1)
   have hs3 := hs3 hok
   have hspt := Af0 e ts.length hi1
   have hil := Aej e ((Cx e.tree).getD ts.length 0) l
   rw [Adl hi1] at hrun
   have h0s : (ts.getD 0 .i).size ≤ 16 := by
    cases ts with
    | nil => decide
    | cons t0 ts => exact hst t0 (.head _)
   refine Ak (Ag (Aq (Se rfl ?_)))
   first | refine Bb rfl rfl _ rfl .free rfl ?_ | refine Bc rfl rfl _ rfl .free rfl ?_
   refine E3 rfl .free rfl ?_; refine Oa rfl (Aa (Ag ?_)); refine Dj 20 rfl rfl ?_
   refine T7 (X := TR) (fun x => [(2, .pointer (some ⟨b2, 0, none⟩)), (3, .pointer (some ⟨b3, 0, none⟩)), (4, .pointer (some ⟨b4, 0, none⟩)), (5, .pointer (some ⟨b5, 0, none⟩)), (6, .bool false), (7, .slice oh ts.length ch), (10, .pointer (some ⟨x.b1, 0, none⟩)), (11, .pointer (some ⟨x.b2, 0, none⟩)), (12, .bool x.ok), (27, .slice ok (Cx e.tree).length ck), (28, .int .i64 ((Cx e.tree).length : Nat)), (29, .int .i64 (ts.length : Nat))]) (fun x => x.J) (fun x => [(x.b2, .cells [.string (str x.w.atom), .slice x.o2 x.w.parts.length x.k2].toArray 49 (0, 0)), (x.b1, .cells [.string (str x.u.atom), .slice x.o1 x.u.parts.length x.k1].toArray 49 (0, 0))]) (fun x => HLe J x.J ∧ Rep x.J x.u [.string (str x.u.atom), .slice x.o1 x.u.parts.length x.k1] ∧ Rep x.J x.w [.string (str x.w.atom), .slice x.o2 x.w.parts.length x.k2] ∧ TOm (e.sub[ts.length].chk (e.inL ((Cx e.tree).getD ts.length 0) l) (e.inM ((Cx e.tree).getD ts.length 0) (ts.getD 0 .i) m)) x.ok x.u x.w) ?_ ?_
   ·rintro x0 ⟨ex, hru, hrw, hm⟩
    have hle := hle.trans ex
    simp only [List.cons_append, List.nil_append]
    refine Ag (Se rfl (Om rfl ?_)); refine C0 rfl .free rfl ?_; refine Aa ?_; refine Aw rfl ?_ ?_
    ·intro c2
     try simp only [nb] at c2
     obtain ⟨y, hy1, hy2⟩ := Afc hm (by simpa using c2); rw [hy1] at hrun; refine Ag ?_; refine Bj (fun w h => Mem.sub (L' := (x0.b2, _) :: (x0.b1, _) :: (b5, _) :: (b4, _) :: (b3, _) :: (b2, _) :: L) (.cons_cons _ (.cons_cons _ (List.sublist_append_right _ _))) h) ?_; refine Dj 5 rfl rfl ?_; refine Da 0 rfl (E1 rfl rfl rfl) ?_; refine Cw 1 2 Ac ?_ ?_
     ·skip
      refine Dz 1 rfl rfl (Vl rfl) .free rfl (.inr As) ?_; refine Dx 2 rfl rfl rfl rfl ?_; refine Dx 3 rfl rfl rfl rfl ?_; refine Db 4 rfl (Ay rfl) ?_; refine Au Ac ?_; refine Ai (.c rfl (.c rfl (.tmp rfl .nil))) ?_
      exact ⟨x0.J, L, hle, Ba, Wu, _, _, _, false, rfl, Ng _, hrw, rfl, by rw [hchk, hrun]; exact ⟨rfl, hy2⟩⟩
     ·skip
      refine Ip 2 rfl rfl rfl rfl rfl rfl .free (.inl Ac) ?_; refine Fg 1 rfl Ac rfl (Vl rfl) .free rfl (.inl Ac) ?_; refine Dx 3 rfl rfl rfl rfl ?_; refine Db 4 rfl (Ay rfl) ?_; refine Au Ac ?_; refine Ai (.c rfl (.c rfl (.tmp rfl .nil))) ?_
      exact ⟨x0.J, L, hle, Ba, Wu, _, _, _, false, rfl, Ng _, hrw, rfl, by rw [hchk, hrun]; exact ⟨rfl, hy2⟩⟩
    intro c2
    try simp only [nb] at c2
    obtain ⟨t0, hc0, hu0⟩ := Afd hm (by simpa using c2); rw [hc0] at hrun
    have hz0 := Ex.chk_small hs3 (Aar hsm h0s hok hfn) hc0
    refine Ak (Am rfl (Om rfl ?_)); refine Gs rfl .free rfl ?_; refine Ol rfl rfl ?_; intro b54; refine Eb (B := B) (xs := xs) (ys := [.string (str x0.u.atom), .slice x0.o1 x0.u.parts.length x0.k1]) (m := ts.length) (c := cb) A5 Ae (by rw [hbv]; rfl) rfl hB (fun _ h => h.u3) Ae (fun a ha => by cases ha; exact Bt Dv Ae) Af Ae Ad Ad Ab Ad .free rfl ?_; intro bh sp ch2 hB2; refine Oa rfl (Aa (Ar (Am rfl ?_))); refine Or rfl rfl rfl ?_; refine Om rfl (Aa ?_)
    refine Bu (E' := [(2, .pointer (some ⟨b2, 0, none⟩)), (3, .pointer (some ⟨b3, 0, none⟩)), (4, .pointer (some ⟨b4, 0, none⟩)), (5, .pointer (some ⟨b5, 0, none⟩)), (6, .bool false), (7, Ch (ts ++ [t0]).length ch2 (some (bh, sp))), (27, .slice ok (Cx e.tree).length ck), (28, .int .i64 ((Cx e.tree).length : Nat)), (29, .int .i64 ((ts ++ [t0]).length : Nat))]) ⟨rfl, rfl, rfl, rfl, rfl, (by simp [Ch]; rfl), rfl, rfl, (by simp; rfl), trivial⟩ (Bj (fun w h => Mem.sub (L' := (bh, _) :: (b5, _) :: (b4, _) :: (b3, _) :: (b2, _) :: L) B7 h) (ih ⟨x0.J, ts ++ [t0], xs ++ [.string (str x0.u.atom), .slice x0.o1 x0.u.parts.length x0.k1], some (bh, sp), ch2⟩ ⟨ez.trans ex, by simp; omega, ?_, by simpa using hB2, hst.add hz0, by simpa using hrun⟩ Cv))
    have h9 : RepL x0.J [t0.tree] [.string (str x0.u.atom), .slice x0.o1 x0.u.parts.length x0.k1] := by rw [← hu0]; exact .one hru
    simpa using (hl.mono ex).append h9
   ·intro hkk
    skip
    refine Dt 0 [17] rfl (Ck rfl) ?_; refine Dt 1 [17] rfl (Ck rfl) ?_; refine Da 2 rfl (Al rfl) ?_; refine Da 3 rfl (Al rfl) ?_; refine Da 5 rfl (Ap rfl) ?_; refine Dt 6 [17] rfl (B6 rfl) ?_; refine Da 7 rfl (Al rfl) ?_
    first | refine Da 8 rfl (Bl rfl rfl _ rfl) ?_ | refine Da 8 rfl (Bm rfl rfl _ rfl) ?_
    refine Dt 9 [17] rfl (Br rfl) ?_; refine Jr 4 15 16 Ac ?_ ?_ ?_
    ·skip
     refine F4 4 rfl rfl rfl .free rfl (Ik he hf.rep hok _ hkm ((hh _).sub Ba) (fun x a b h h3 => ⟨by
      cases ts with
      | nil => subst h; exact absurd (show (2 : Nat) = 3 from h3) Ad
      | cons t0 ts => simp, h0s⟩) hfn (by unfold A9; omega)) ?_
     rintro _ J1 _ e2 ⟨oe, ke, of, kf, rfl, he1, rfl⟩; refine Hx ?_; refine Jr 10 15 16 Ac ?_ ?_ ?_
     ·skip
      refine F4 10 rfl rfl rfl .free rfl (ihn Ab he1 (Jm ((hf.mono e2).rp _ hkt) hspt) hs3 Ce _) ?_; rintro _ J2 _ e3 ⟨u, cs, w', ds, ok', rfl, hru, hrw, rfl, hm⟩; obtain ⟨o1, k1, _, rfl, -⟩ := hru.open; obtain ⟨o2, k2, _, rfl, -⟩ := hrw.open
      have hle1 := e2.trans e3
      refine Hx ?_; refine Da 11 rfl (Al rfl) ?_; refine Da 12 rfl (Bh rfl rfl) ?_; refine Da 13 rfl (Bh rfl rfl) ?_; refine Da 14 rfl (Bh rfl rfl) ?_; refine Cw 15 16 Ac ?_ ?_
      ·skip
       refine Ci 15 rfl rfl .free rfl (.inr As) ?_; intro b10; refine Ea 16 rfl Ac rfl .free rfl (.inr As) ?_; intro b11; refine Dx 17 rfl rfl rfl rfl ?_; refine Dx 18 rfl rfl rfl rfl ?_; refine Db 19 rfl (Ay rfl) ?_; refine Au Ac ?_
       exact Bu (E' := [(2, _), (3, _), (4, _), (5, _), (6, _), (7, _), (10, _), (11, _), (12, _), (27, _), (28, _), (29, _)]) ⟨rfl, rfl, rfl, rfl, rfl, rfl, rfl, rfl, rfl, rfl, rfl, rfl, trivial⟩ (Bj A6 (hkk ⟨J2, b10, b11, u, w', o1, k1, o2, k2, ok'⟩ ⟨hle1, hru, hrw, hm⟩))
      ·skip
       refine Ci 16 rfl rfl .free rfl (.inr As) ?_; intro b11; refine Ea 15 rfl Ac rfl .free rfl (.inr As) ?_; intro b10; refine Dx 17 rfl rfl rfl rfl ?_; refine Dx 18 rfl rfl rfl rfl ?_; refine Db 19 rfl (Ay rfl) ?_; refine Au Ac ?_
       exact Bu (E' := [(2, _), (3, _), (4, _), (5, _), (6, _), (7, _), (10, _), (11, _), (12, _), (27, _), (28, _), (29, _)]) ⟨rfl, rfl, rfl, rfl, rfl, rfl, rfl, rfl, rfl, rfl, rfl, rfl, trivial⟩ (Bj A6 (hkk ⟨J2, b10, b11, u, w', o1, k1, o2, k2, ok'⟩ ⟨hle1, hru, hrw, hm⟩))
     ·skip
      refine Ci 15 rfl rfl .free rfl (.inr As) ?_; intro b10; refine Cw 10 16 Ac ?_ ?_
      ·skip
       refine F4 10 rfl rfl rfl .free rfl (ihn Ab he1 (Jm ((hf.mono e2).rp _ hkt) hspt) hs3 Ce _) ?_; rintro _ J2 _ e3 ⟨u, cs, w', ds, ok', rfl, hru, hrw, rfl, hm⟩; obtain ⟨o1, k1, _, rfl, -⟩ := hru.open; obtain ⟨o2, k2, _, rfl, -⟩ := hrw.open
       have hle1 := e2.trans e3
       refine Hx ?_; refine Da 11 rfl (Al rfl) ?_; refine Da 12 rfl (Bh rfl rfl) ?_; refine Da 13 rfl (Bh rfl rfl) ?_; refine Da 14 rfl (Bh rfl rfl) ?_; refine Ea 16 rfl Ac rfl .free rfl (.inr As) ?_; intro b11; refine Dx 17 rfl rfl rfl rfl ?_; refine Dx 18 rfl rfl rfl rfl ?_; refine Db 19 rfl (Ay rfl) ?_; refine Au Ac ?_
       exact Bu (E' := [(2, _), (3, _), (4, _), (5, _), (6, _), (7, _), (10, _), (11, _), (12, _), (27, _), (28, _), (29, _)]) ⟨rfl, rfl, rfl, rfl, rfl, rfl, rfl, rfl, rfl, rfl, rfl, rfl, trivial⟩ (Bj A6 (hkk ⟨J2, b10, b11, u, w', o1, k1, o2, k2, ok'⟩ ⟨hle1, hru, hrw, hm⟩))
      ·skip
       refine Ci 16 rfl rfl .free rfl (.inr As) ?_; intro b11; refine Dc 10 rfl rfl (ihn Ab he1 (Jm ((hf.mono e2).rp _ hkt) hspt) hs3 Ce _) ?_; rintro _ J2 _ e3 ⟨u, cs, w', ds, ok', rfl, hru, hrw, rfl, hm⟩; obtain ⟨o1, k1, _, rfl, -⟩ := hru.open; obtain ⟨o2, k2, _, rfl, -⟩ := hrw.open
       have hle1 := e2.trans e3
       refine Hx ?_; refine Da 11 rfl (Al rfl) ?_; refine Da 12 rfl (Bh rfl rfl) ?_; refine Da 13 rfl (Bh rfl rfl) ?_; refine Da 14 rfl (Bh rfl rfl) ?_; refine Dx 17 rfl rfl rfl rfl ?_; refine Dx 18 rfl rfl rfl rfl ?_; refine Db 19 rfl (Ay rfl) ?_; refine Au Ac ?_
       exact Bu (E' := [(2, _), (3, _), (4, _), (5, _), (6, _), (7, _), (10, _), (11, _), (12, _), (27, _), (28, _), (29, _)]) ⟨rfl, rfl, rfl, rfl, rfl, rfl, rfl, rfl, rfl, rfl, rfl, rfl, trivial⟩ (Bj A6 (hkk ⟨J2, b10, b11, u, w', o1, k1, o2, k2, ok'⟩ ⟨hle1, hru, hrw, hm⟩))
     ·skip
      refine Ci 16 rfl rfl .free rfl (.inr As) ?_; intro b11; refine Cw 10 15 Ac ?_ ?_
      ·skip
       refine F4 10 rfl rfl rfl .free rfl (ihn Ab he1 (Jm ((hf.mono e2).rp _ hkt) hspt) hs3 Ce _) ?_; rintro _ J2 _ e3 ⟨u, cs, w', ds, ok', rfl, hru, hrw, rfl, hm⟩; obtain ⟨o1, k1, _, rfl, -⟩ := hru.open; obtain ⟨o2, k2, _, rfl, -⟩ := hrw.open
       have hle1 := e2.trans e3
       refine Hx ?_; refine Da 11 rfl (Al rfl) ?_; refine Da 12 rfl (Bh rfl rfl) ?_; refine Da 13 rfl (Bh rfl rfl) ?_; refine Da 14 rfl (Bh rfl rfl) ?_; refine Ea 15 rfl Ac rfl .free rfl (.inr As) ?_; intro b10; refine Dx 17 rfl rfl rfl rfl ?_; refine Dx 18 rfl rfl rfl rfl ?_; refine Db 19 rfl (Ay rfl) ?_; refine Au Ac ?_
       exact Bu (E' := [(2, _), (3, _), (4, _), (5, _), (6, _), (7, _), (10, _), (11, _), (12, _), (27, _), (28, _), (29, _)]) ⟨rfl, rfl, rfl, rfl, rfl, rfl, rfl, rfl, rfl, rfl, rfl, rfl, trivial⟩ (Bj A6 (hkk ⟨J2, b10, b11, u, w', o1, k1, o2, k2, ok'⟩ ⟨hle1, hru, hrw, hm⟩))
      ·skip
       refine Ci 15 rfl rfl .free rfl (.inr As) ?_; intro b10; refine Dc 10 rfl rfl (ihn Ab he1 (Jm ((hf.mono e2).rp _ hkt) hspt) hs3 Ce _) ?_; rintro _ J2 _ e3 ⟨u, cs, w', ds, ok', rfl, hru, hrw, rfl, hm⟩; obtain ⟨o1, k1, _, rfl, -⟩ := hru.open; obtain ⟨o2, k2, _, rfl, -⟩ := hrw.open
       have hle1 := e2.trans e3
       refine Hx ?_; refine Da 11 rfl (Al rfl) ?_; refine Da 12 rfl (Bh rfl rfl) ?_; refine Da 13 rfl (Bh rfl rfl) ?_; refine Da 14 rfl (Bh rfl rfl) ?_; refine Dx 17 rfl rfl rfl rfl ?_; refine Dx 18 rfl rfl rfl rfl ?_; refine Db 19 rfl (Ay rfl) ?_; refine Au Ac ?_
       exact Bu (E' := [(2, _), (3, _), (4, _), (5, _), (6, _), (7, _), (10, _), (11, _), (12, _), (27, _), (28, _), (29, _)]) ⟨rfl, rfl, rfl, rfl, rfl, rfl, rfl, rfl, rfl, rfl, rfl, rfl, trivial⟩ (Bj A6 (hkk ⟨J2, b10, b11, u, w', o1, k1, o2, k2, ok'⟩ ⟨hle1, hru, hrw, hm⟩))
    ·skip
     refine Ci 15 rfl rfl .free rfl (.inr As) ?_; intro b10; refine Cw 4 16 Ac ?_ ?_
     ·skip
      refine F4 4 rfl rfl rfl .free rfl (Ik he hf.rep hok _ hkm ((hh _).sub Ba) (fun x a b h h3 => ⟨by
       cases ts with
       | nil => subst h; exact absurd (show (2 : Nat) = 3 from h3) Ad
       | cons t0 ts => simp, h0s⟩) hfn (by unfold A9; omega)) ?_
      rintro _ J1 _ e2 ⟨oe, ke, of, kf, rfl, he1, rfl⟩; refine Hx ?_; refine Cw 10 16 Ac ?_ ?_
      ·skip
       refine F4 10 rfl rfl rfl .free rfl (ihn Ab he1 (Jm ((hf.mono e2).rp _ hkt) hspt) hs3 Ce _) ?_; rintro _ J2 _ e3 ⟨u, cs, w', ds, ok', rfl, hru, hrw, rfl, hm⟩; obtain ⟨o1, k1, _, rfl, -⟩ := hru.open; obtain ⟨o2, k2, _, rfl, -⟩ := hrw.open
       have hle1 := e2.trans e3
       refine Hx ?_; refine Da 11 rfl (Al rfl) ?_; refine Da 12 rfl (Bh rfl rfl) ?_; refine Da 13 rfl (Bh rfl rfl) ?_; refine Da 14 rfl (Bh rfl rfl) ?_; refine Ea 16 rfl Ac rfl .free rfl (.inr As) ?_; intro b11; refine Dx 17 rfl rfl rfl rfl ?_; refine Dx 18 rfl rfl rfl rfl ?_; refine Db 19 rfl (Ay rfl) ?_; refine Au Ac ?_
       exact Bu (E' := [(2, _), (3, _), (4, _), (5, _), (6, _), (7, _), (10, _), (11, _), (12, _), (27, _), (28, _), (29, _)]) ⟨rfl, rfl, rfl, rfl, rfl, rfl, rfl, rfl, rfl, rfl, rfl, rfl, trivial⟩ (Bj A6 (hkk ⟨J2, b10, b11, u, w', o1, k1, o2, k2, ok'⟩ ⟨hle1, hru, hrw, hm⟩))
      ·skip
       refine Ci 16 rfl rfl .free rfl (.inr As) ?_; intro b11; refine Dc 10 rfl rfl (ihn Ab he1 (Jm ((hf.mono e2).rp _ hkt) hspt) hs3 Ce _) ?_; rintro _ J2 _ e3 ⟨u, cs, w', ds, ok', rfl, hru, hrw, rfl, hm⟩; obtain ⟨o1, k1, _, rfl, -⟩ := hru.open; obtain ⟨o2, k2, _, rfl, -⟩ := hrw.open
       have hle1 := e2.trans e3
       refine Hx ?_; refine Da 11 rfl (Al rfl) ?_; refine Da 12 rfl (Bh rfl rfl) ?_; refine Da 13 rfl (Bh rfl rfl) ?_; refine Da 14 rfl (Bh rfl rfl) ?_; refine Dx 17 rfl rfl rfl rfl ?_; refine Dx 18 rfl rfl rfl rfl ?_; refine Db 19 rfl (Ay rfl) ?_; refine Au Ac ?_
       exact Bu (E' := [(2, _), (3, _), (4, _), (5, _), (6, _), (7, _), (10, _), (11, _), (12, _), (27, _), (28, _), (29, _)]) ⟨rfl, rfl, rfl, rfl, rfl, rfl, rfl, rfl, rfl, rfl, rfl, rfl, trivial⟩ (Bj A6 (hkk ⟨J2, b10, b11, u, w', o1, k1, o2, k2, ok'⟩ ⟨hle1, hru, hrw, hm⟩))
     ·skip
      refine Ci 16 rfl rfl .free rfl (.inr As) ?_; intro b11
      refine G6 4 rfl (by kernel_rfl) rfl rfl .free rfl (Ik he hf.rep hok _ hkm ((hh _).sub Ba) (fun x a b h h3 => ⟨by
       cases ts with
       | nil => subst h; exact absurd (show (2 : Nat) = 3 from h3) Ad
       | cons t0 ts => simp, h0s⟩) hfn (by unfold A9; omega)) ?_
      rintro _ J1 _ e2 ⟨oe, ke, of, kf, rfl, he1, rfl⟩; refine Hx ?_; refine Dc 10 rfl rfl (ihn Ab he1 (Jm ((hf.mono e2).rp _ hkt) hspt) hs3 Ce _) ?_; rintro _ J2 _ e3 ⟨u, cs, w', ds, ok', rfl, hru, hrw, rfl, hm⟩; obtain ⟨o1, k1, _, rfl, -⟩ := hru.open; obtain ⟨o2, k2, _, rfl, -⟩ := hrw.open
      have hle1 := e2.trans e3
      refine Hx ?_; refine Da 11 rfl (Al rfl) ?_; refine Da 12 rfl (Bh rfl rfl) ?_; refine Da 13 rfl (Bh rfl rfl) ?_; refine Da 14 rfl (Bh rfl rfl) ?_; refine Dx 17 rfl rfl rfl rfl ?_; refine Dx 18 rfl rfl rfl rfl ?_; refine Db 19 rfl (Ay rfl) ?_; refine Au Ac ?_
      exact Bu (E' := [(2, _), (3, _), (4, _), (5, _), (6, _), (7, _), (10, _), (11, _), (12, _), (27, _), (28, _), (29, _)]) ⟨rfl, rfl, rfl, rfl, rfl, rfl, rfl, rfl, rfl, rfl, rfl, rfl, trivial⟩ (Bj A6 (hkk ⟨J2, b10, b11, u, w', o1, k1, o2, k2, ok'⟩ ⟨hle1, hru, hrw, hm⟩))
    ·skip
     refine Ci 16 rfl rfl .free rfl (.inr As) ?_; intro b11; refine Cw 4 15 Ac ?_ ?_
     ·skip
      refine F4 4 rfl rfl rfl .free rfl (Ik he hf.rep hok _ hkm ((hh _).sub Ba) (fun x a b h h3 => ⟨by
       cases ts with
       | nil => subst h; exact absurd (show (2 : Nat) = 3 from h3) Ad
       | cons t0 ts => simp, h0s⟩) hfn (by unfold A9; omega)) ?_
      rintro _ J1 _ e2 ⟨oe, ke, of, kf, rfl, he1, rfl⟩; refine Hx ?_; refine Cw 10 15 Ac ?_ ?_
      ·skip
       refine F4 10 rfl rfl rfl .free rfl (ihn Ab he1 (Jm ((hf.mono e2).rp _ hkt) hspt) hs3 Ce _) ?_; rintro _ J2 _ e3 ⟨u, cs, w', ds, ok', rfl, hru, hrw, rfl, hm⟩; obtain ⟨o1, k1, _, rfl, -⟩ := hru.open; obtain ⟨o2, k2, _, rfl, -⟩ := hrw.open
       have hle1 := e2.trans e3
       refine Hx ?_; refine Da 11 rfl (Al rfl) ?_; refine Da 12 rfl (Bh rfl rfl) ?_; refine Da 13 rfl (Bh rfl rfl) ?_; refine Da 14 rfl (Bh rfl rfl) ?_; refine Ea 15 rfl Ac rfl .free rfl (.inr As) ?_; intro b10; refine Dx 17 rfl rfl rfl rfl ?_; refine Dx 18 rfl rfl rfl rfl ?_; refine Db 19 rfl (Ay rfl) ?_; refine Au Ac ?_
       exact Bu (E' := [(2, _), (3, _), (4, _), (5, _), (6, _), (7, _), (10, _), (11, _), (12, _), (27, _), (28, _), (29, _)]) ⟨rfl, rfl, rfl, rfl, rfl, rfl, rfl, rfl, rfl, rfl, rfl, rfl, trivial⟩ (Bj A6 (hkk ⟨J2, b10, b11, u, w', o1, k1, o2, k2, ok'⟩ ⟨hle1, hru, hrw, hm⟩))
      ·skip
       refine Ci 15 rfl rfl .free rfl (.inr As) ?_; intro b10; refine Dc 10 rfl rfl (ihn Ab he1 (Jm ((hf.mono e2).rp _ hkt) hspt) hs3 Ce _) ?_; rintro _ J2 _ e3 ⟨u, cs, w', ds, ok', rfl, hru, hrw, rfl, hm⟩; obtain ⟨o1, k1, _, rfl, -⟩ := hru.open; obtain ⟨o2, k2, _, rfl, -⟩ := hrw.open
       have hle1 := e2.trans e3
       refine Hx ?_; refine Da 11 rfl (Al rfl) ?_; refine Da 12 rfl (Bh rfl rfl) ?_; refine Da 13 rfl (Bh rfl rfl) ?_; refine Da 14 rfl (Bh rfl rfl) ?_; refine Dx 17 rfl rfl rfl rfl ?_; refine Dx 18 rfl rfl rfl rfl ?_; refine Db 19 rfl (Ay rfl) ?_; refine Au Ac ?_
       exact Bu (E' := [(2, _), (3, _), (4, _), (5, _), (6, _), (7, _), (10, _), (11, _), (12, _), (27, _), (28, _), (29, _)]) ⟨rfl, rfl, rfl, rfl, rfl, rfl, rfl, rfl, rfl, rfl, rfl, rfl, trivial⟩ (Bj A6 (hkk ⟨J2, b10, b11, u, w', o1, k1, o2, k2, ok'⟩ ⟨hle1, hru, hrw, hm⟩))
     ·skip
      refine Ci 15 rfl rfl .free rfl (.inr As) ?_; intro b10
      refine G6 4 rfl (by kernel_rfl) rfl rfl .free rfl (Ik he hf.rep hok _ hkm ((hh _).sub Ba) (fun x a b h h3 => ⟨by
       cases ts with
       | nil => subst h; exact absurd (show (2 : Nat) = 3 from h3) Ad
       | cons t0 ts => simp, h0s⟩) hfn (by unfold A9; omega)) ?_
      rintro _ J1 _ e2 ⟨oe, ke, of, kf, rfl, he1, rfl⟩; refine Hx ?_; refine Dc 10 rfl rfl (ihn Ab he1 (Jm ((hf.mono e2).rp _ hkt) hspt) hs3 Ce _) ?_; rintro _ J2 _ e3 ⟨u, cs, w', ds, ok', rfl, hru, hrw, rfl, hm⟩; obtain ⟨o1, k1, _, rfl, -⟩ := hru.open; obtain ⟨o2, k2, _, rfl, -⟩ := hrw.open
      have hle1 := e2.trans e3
      refine Hx ?_; refine Da 11 rfl (Al rfl) ?_; refine Da 12 rfl (Bh rfl rfl) ?_; refine Da 13 rfl (Bh rfl rfl) ?_; refine Da 14 rfl (Bh rfl rfl) ?_; refine Dx 17 rfl rfl rfl rfl ?_; refine Dx 18 rfl rfl rfl rfl ?_; refine Db 19 rfl (Ay rfl) ?_; refine Au Ac ?_
      exact Bu (E' := [(2, _), (3, _), (4, _), (5, _), (6, _), (7, _), (10, _), (11, _), (12, _), (27, _), (28, _), (29, _)]) ⟨rfl, rfl, rfl, rfl, rfl, rfl, rfl, rfl, rfl, rfl, rfl, rfl, trivial⟩ (Bj A6 (hkk ⟨J2, b10, b11, u, w', o1, k1, o2, k2, ok'⟩ ⟨hle1, hru, hrw, hm⟩))
  intro c1
  try simp only [nb] at c1
  rw [Aet Ab] at hrun; rw [hrun] at hchk
  simp only at hchk
  refine Cf rfl ?_; refine Se rfl ?_; refine A7 rfl .free rfl ?_; refine A7 rfl .free rfl ?_; refine Om rfl ?_; refine Ca rfl (Uj he hf.rep hok ((hh _).sub Ba) Ab hfn) ?_; rintro _ J9 _ e9 ⟨u, cs, ok9, rfl, hru9, rfl, hm9⟩; obtain ⟨o9, k9, _, rfl, -⟩ := hru9.open
  have hf := hf.mono e9
  have hle := hle.trans e9
  have hsz : ok9 = true → u.size ≤ A9 := by
   intro h9
   cases hr : e.raw ts l m with
   | none => rw [hr] at hm9; rw [h9] at hm9; cases hm9
   | some t9 =>
    rw [hr] at hm9
    have := Aa4 hst hsm hfn hr
    rw [hm9.2, Ty.tree_size]; unfold A9; omega
  refine Om rfl (Oe rfl rfl (Oe rfl rfl ?_)); refine Az .free rfl ?_; intro b13; refine Bo rfl rfl rfl rfl .free ?_; refine Oa rfl (Aa (Ag ?_)); refine Bj (L' := (b13, _) :: (b5, _) :: (b4, _) :: (b3, _) :: (b2, _) :: L) (fun w h => Mem.sub (.cons_cons _ (List.sublist_append_right _ _)) h) ?_; refine Dj 10 rfl rfl ?_; refine Dt 0 [7] rfl (Ck rfl) ?_; refine Da 2 rfl (Al rfl) ?_; refine Da 3 rfl (Al rfl) ?_
  first | refine Ae3 (t := 67) rfl ?_ ?_ | refine Agb (t := 67) rfl ?_ ?_
  ·intro g13_4; refine E8 4 [5, 7] rfl Ac rfl As (Ck rfl) (.met rfl rfl) rfl ?_; refine Cw 1 5 Ac ?_ ?_
   ·skip
    refine Dz 1 rfl rfl (Ck rfl) .free rfl (.inr As) ?_; refine G6 5 rfl Ac rfl rfl (.met rfl rfl) rfl (Hj hru9 (hsz g13_4) _) ?_; rintro _ _ _ _ ⟨rfl, rfl, rfl⟩; refine Hx ?_; refine Da 6 rfl (Dw rfl rfl) ?_; refine Dx 7 rfl rfl rfl rfl ?_; refine Dx 8 rfl rfl rfl rfl ?_; refine Db 9 rfl (Ay rfl) ?_; refine Au Ac ?_; refine Ai (.c rfl (.c rfl (.tmp rfl .nil))) ?_
    exact ⟨J9, L, hle, Ba, u, _, _, _, _, rfl, hru9, hf.rep, rfl, by rw [hchk]; have := R6 (e := e) hm9; simpa [g13_4] using this⟩
   ·skip
    refine F4 5 rfl rfl rfl (.met rfl rfl) rfl (Hj hru9 (hsz g13_4) _) ?_; rintro _ _ _ _ ⟨rfl, rfl, rfl⟩; refine Hx ?_; refine Da 6 rfl (Dw rfl rfl) ?_; refine Cw 1 7 Ac ?_ ?_
    ·skip
     refine Dz 1 rfl rfl (Ck rfl) .free rfl (.inr As) ?_; refine Dx 7 rfl rfl rfl rfl ?_; refine Dx 8 rfl rfl rfl rfl ?_; refine Db 9 rfl (Ay rfl) ?_; refine Au Ac ?_; refine Ai (.c rfl (.c rfl (.tmp rfl .nil))) ?_
     exact ⟨J9, L, hle, Ba, u, _, _, _, _, rfl, hru9, hf.rep, rfl, by rw [hchk]; have := R6 (e := e) hm9; simpa [g13_4] using this⟩
    ·skip
     refine Ip 7 rfl rfl rfl rfl rfl rfl .free (.inl Ac) ?_; refine Fg 1 rfl Ac rfl (Ck rfl) .free rfl (.inl Ac) ?_; refine Dx 8 rfl rfl rfl rfl ?_; refine Db 9 rfl (Ay rfl) ?_; refine Au Ac ?_; refine Ai (.c rfl (.c rfl (.tmp rfl .nil))) ?_
     exact ⟨J9, L, hle, Ba, u, _, _, _, _, rfl, hru9, hf.rep, rfl, by rw [hchk]; have := R6 (e := e) hm9; simpa [g13_4] using this⟩
  intro g13_4; refine Ds 4 rfl rfl rfl ?_; refine Ds 5 rfl rfl rfl ?_; refine Da 6 rfl (Dp rfl rfl) ?_; refine Cw 1 7 Ac ?_ ?_
  ·skip
   refine Dz 1 rfl rfl (Ck rfl) .free rfl (.inr As) ?_; refine Dx 7 rfl rfl rfl rfl ?_; refine Dx 8 rfl rfl rfl rfl ?_; refine Db 9 rfl (Ay rfl) ?_; refine Au Ac ?_; refine Ai (.c rfl (.c rfl (.tmp rfl .nil))) ?_
   exact ⟨J9, L, hle, Ba, u, _, _, _, _, rfl, hru9, hf.rep, rfl, by rw [hchk]; have := R6 (e := e) hm9; simpa [g13_4] using this⟩
  ·skip
   refine Ip 7 rfl rfl rfl rfl rfl rfl .free (.inl Ac) ?_; refine Fg 1 rfl Ac rfl (Ck rfl) .free rfl (.inl Ac) ?_; refine Dx 8 rfl rfl rfl rfl ?_; refine Db 9 rfl (Ay rfl) ?_; refine Au Ac ?_; refine Ai (.c rfl (.c rfl (.tmp rfl .nil))) ?_
   exact ⟨J9, L, hle, Ba, u, _, _, _, _, rfl, hru9, hf.rep, rfl, by rw [hchk]; have := R6 (e := e) hm9; simpa [g13_4] using this⟩
def Hf (sg s : Av) : Option (Ty × Ty) := match L8 s with
 | some (.fn a b) => if sg = [62] then some (a, b) else none
 | some (.pr a b) => if sg = [42] then some (a, b) else none
 | _ => none
def t1 (o : Option (Ty × Ty)) : Av := (o.map fun p => p.1.tree.text).getD []
def t2 (o : Option (Ty × Ty)) : Av := (o.map fun p => p.2.tree.text).getD []
theorem R7 {sg s : Av} (h : L8 s = none) : Hf sg s = none := by unfold Hf; rw [h]
theorem R8 {sg s : Av} {a : Ty} (h : L8 s = some a) : (a.tree.atom = [] ∧ a.tree.head = sg → ∃ x y, Hf sg s = some (x, y) ∧ a.tree.parts.length = 3 ∧ a.tree.pt 1 = x.tree ∧ a.tree.pt 2 = y.tree) ∧ (¬ (a.tree.atom = [] ∧ a.tree.head = sg) → Hf sg s = none) := by
 unfold Hf
 rw [h]
 cases a with
 | i => exact ⟨fun h => absurd h.1 Ad, fun _ => rfl⟩
 | fn x y =>
  refine ⟨fun h => ⟨x, y, if_pos (show sg = [62] from h.2.symm), rfl, rfl, rfl⟩, fun h => if_neg fun e => h ⟨rfl, e.symm⟩⟩
 | pr x y =>
  refine ⟨fun h => ⟨x, y, if_pos (show sg = [42] from h.2.symm), rfl, rfl, rfl⟩, fun h => if_neg fun e => h ⟨rfl, e.symm⟩⟩
def Agf (f : Bool) (a b : Ty) : Ty := if f then .fn a b else .pr a b
def Ag5 (f : Bool) (a b : Av) : Option Av := match L8 a, L8 b with
 | some x, some y => if (Agf f x y).size ≤ 16 then some (Agf f x y).tree.text else none
 | _, _ => none
def sgn (f : Bool) : Av := if f then [62] else [42]
def Ahf (h k0 k1 k2 : Av) : Av :=
 if h = G4 ∧ k0 = [105] ∧ k1 = k2 then k1
 else if h = E0 ∧ (Hf [62] k0).isSome = true ∧ t1 (Hf [62] k0) = k1 then t2 (Hf [62] k0)
 else if h = D2 then (Ag5 false k0 k1).getD []
 else if h = Fz ∧ (Hf [42] k0).isSome = true then t1 (Hf [42] k0)
 else if h = F0 ∧ (Hf [42] k0).isSome = true then t2 (Hf [42] k0)
 else if (h = [43] ∨ h = [45] ∨ h = [42]) ∧ k0 = [105] ∧ k1 = [105] then [105]
 else []
def Ahc (h : Av) (n : Nat) : Prop := (∃ o : B5, h = o.txt ∧ n = 2) ∨ (h = G4 ∧ n = 3) ∨ (∃ o : U2, h = o.txt ∧ n = 1)
abbrev tx (m : List Ty) : List Av := m.map fun t => t.tree.text
def ST (s : Av) (L : Bs) : C8 := fun v I' L' => v = .string (str s) ∧ L = L'
def TW (o : Option (Ty × Ty)) (L : Bs) : C8 := fun v I' L' => v = .tuple #[.string (str (t1 o)), .string (str (t2 o)), .bool o.isSome] ∧ L = L'
theorem Tr {s : Av} {t : Tree} {ok : Bool} (hpf : match Dh s with | some t0 => ok = true ∧ t = t0 | none => ok = false) : (ok = true → t.typed = true → ∃ a, L8 s = some a ∧ t = a.tree ∧ a.size ≤ 16) ∧ (ok = false ∨ t.typed = false → L8 s = none) := by
 have e : Fw s = bif ok && t.typed then some t else none := by
  unfold Fw
  cases hp : Dh s with
  | none => rw [hp] at hpf; simp [hpf]
  | some t0 => rw [hp] at hpf; obtain ⟨rfl, rfl⟩ := hpf; simp only [Bool.true_and]
 constructor
 ·intro h1 h2; rw [h1, h2] at e; obtain ⟨a, h3, h4, h5, _⟩ := Vd e
  exact ⟨a, h3, h4, h5⟩
 ·intro h
  have : Fw s = none := by rw [e]; rcases h with h | h <;> simp [h]
  unfold L8; rw [this]; rfl
theorem Zh (s sg : Av) (hs : s.length ≤ A9) (I : Heap) (L : Bs) : Fun Tryz.prog 207 [.string (str s), .string (str sg)] I L (TW (Hf sg s) L) := by
 refine Ao Af ?_; refine Se rfl ?_
 iterate 3 refine Oa rfl ?_
 refine Aa (Se rfl (Om rfl ?_)); refine Ca rfl (S3 s hs _ _) ?_; rintro _ J _ e1 ⟨t, cs, ok, rfl, hrep, rfl, hpf⟩; obtain ⟨oa, c, oaf, cf, rfl, hf⟩ := hrep.at'
 have hty := Tr hpf
 have hn := hf.nil
 refine Om rfl (Oe rfl rfl (Oe rfl rfl ?_)); refine Az .free rfl ?_; intro b7; refine Bo rfl rfl rfl rfl .free ?_; refine Oa rfl (Aa (Ag (Se rfl (Om rfl ?_)))); refine C0 rfl .free rfl ?_; refine Om rfl ?_
 apply Gy 16 20 rfl
 ·intro g2_3 hk
  try simp only [nb] at g2_3
  have hp := F5 (Ig hpf g2_3)
  refine A7 rfl (.met rfl rfl) rfl ?_; refine Cq rfl (.met rfl rfl) rfl (M5 hf.rep hp.1 (Tree.size_maxN hp.2.1) _) ?_; rintro _ _ _ _ ⟨rfl, rfl, rfl⟩; refine C0 rfl (.met rfl rfl) rfl ?_; refine Of rfl rfl ?_
  exact Ax 3 rfl rfl hk
 ·intro _ hk; refine A4 3 rfl ?_; refine Ot rfl rfl ?_
  exact Ax 3 rfl rfl hk
 refine Om rfl ?_
 apply Gy 21 25 rfl
 ·intro g2_8 hk
  try simp only [nb] at g2_8
  refine A2 rfl (.met rfl rfl) rfl ?_; refine A8 rfl (.met rfl rfl) rfl ?_; refine Cy rfl rfl rfl (.met rfl rfl) rfl ?_; refine Of rfl rfl ?_
  exact Ax 3 rfl rfl hk
 ·intro _ hk; refine A4 3 rfl ?_; refine Ot rfl rfl ?_
  exact Ax 3 rfl rfl hk
 refine Om rfl ?_
 apply Gy 26 34 rfl
 ·intro g2_13 hk
  try simp only [nb] at g2_13
  have hp := F5 (Ig hpf g2_13.1.1)
  have hne := (Lt hp.1 (by simpa using g2_13.2)).2
  refine A2 rfl (.met rfl rfl) rfl ?_; refine A8 rfl (.met rfl rfl) rfl ?_
  first | refine Bb rfl rfl 0 rfl (.met rfl rfl) rfl ?_ | refine Bc rfl rfl 0 rfl (.met rfl rfl) rfl ?_
  refine Bn rfl (.met rfl rfl) rfl ?_; refine Gd rfl (.met rfl rfl) rfl ?_; refine Ow rfl ?_; refine Cy rfl rfl rfl (.met rfl rfl) rfl ?_; refine Of rfl rfl ?_
  exact Ax 7 rfl rfl hk
 ·intro _ hk; refine A4 7 rfl ?_; refine Ot rfl rfl ?_
  exact Ax 7 rfl rfl hk
 refine Aa ?_; refine Aw rfl ?_ ?_
 ·intro c0
  try simp only [nb] at c0
  refine Se rfl ?_
  iterate 3 refine Oa rfl ?_
  refine Aa ?_; refine Ai (.tmp rfl (.tmp rfl (.tmp rfl .nil))) ?_; refine ⟨J, L, e1, Ba, ?_, rfl⟩
  have hz : Hf sg s = none := by
   by_cases h1 : ok = true
   ·by_cases h2 : t.typed = true
    ·obtain ⟨a, h3, rfl, h4⟩ := hty.1 h1 h2; refine (R8 h3).2 ?_; rintro ⟨h5, h6⟩
     rcases c0 with ((h | h) | h) | h
     ·rw [h1] at h; cases h
     ·rw [h2] at h; cases h
     ·exact h h5
     ·have hp := F5 (Ig hpf h1)
      exact h ((M9 (Lt hp.1 h5).2).symm.trans h6)
    ·exact R7 (hty.2 (.inr (by simpa using h2)))
   ·exact R7 (hty.2 (.inl (by simpa using h1)))
  rw [hz]; rfl
 intro c0
 try simp only [nb] at c0
 obtain ⟨⟨⟨h1, h2⟩, h3⟩, h4⟩ := c0
 have hp := F5 (Ig hpf h1)
 have hne := (Lt hp.1 (by simpa using h3)).2
 obtain ⟨a, h5, rfl, h6⟩ := hty.1 h1 h2; obtain ⟨x, y, h7, h8, h9, h10⟩ := (R8 h5).1 ⟨by simpa using h3, (M9 hne).trans (by simpa using h4)⟩
 have hx := Tree.pt_good hp.1 1 Ab
 have hy := Tree.pt_good hp.1 2 Ab
 have hl1 := a.tree.pt_len 1 Ab
 have hl2 := a.tree.pt_len 2 Ab
 refine Ak (Ag ?_); refine Dj 13 rfl rfl ?_; refine Da 0 rfl (Ap rfl) ?_; refine Dt 1 [13] rfl (B6 rfl) ?_
 first | refine Da 2 rfl (Bl rfl rfl 1 rfl) ?_ | refine Da 2 rfl (Bm rfl rfl 1 rfl) ?_
 refine Dt 3 [13] rfl (Br rfl) ?_; refine Da 5 rfl (Ap rfl) ?_; refine Dt 6 [13] rfl (B6 rfl) ?_
 first | refine Da 7 rfl (Bl rfl rfl 2 rfl) ?_ | refine Da 7 rfl (Bm rfl rfl 2 rfl) ?_
 refine Dt 8 [13] rfl (Br rfl) ?_; refine Dc 4 rfl rfl (Ml _ (Nat.lt_succ_self _) (hf.rp 1 Ab) hx Ab _) ?_; rintro _ _ _ _ ⟨rfl, rfl, rfl⟩; refine Hx ?_; refine Dc 9 rfl rfl (Ml _ (Nat.lt_succ_self _) (hf.rp 2 Ab) hy Ab _) ?_; rintro _ _ _ _ ⟨rfl, rfl, rfl⟩; refine Hx ?_; refine Da 10 rfl (Ay rfl) ?_; refine Da 11 rfl (Ay rfl) ?_; refine Da 12 rfl (Ay rfl) ?_; refine Au Ac ?_; refine Ai (.tmp rfl (.tmp rfl (.tmp rfl .nil))) ?_
 exact ⟨J, L, e1, Ba, by rw [h7, h9, h10]; rfl, rfl⟩
theorem Aaf (s : Av) (hs : s.length ≤ A9) (I : Heap) (L : Bs) : Fun Tryz.prog 197 [.string (str s)] I L (TW (Hf [62] s) L) := by
 refine Ao Af ?_; refine Se rfl ?_
 iterate 3 refine Oa rfl ?_
 refine Aa (Se rfl (Om rfl ?_)); refine Ca rfl (Zh s [62] hs _ _) ?_; rintro _ J _ e1 ⟨rfl, rfl⟩
 iterate 3 refine Oe rfl rfl ?_
 iterate 3 refine Oa rfl ?_
 refine Aa ?_; refine Ai (.tmp rfl (.tmp rfl (.tmp rfl .nil))) ?_
 exact ⟨J, L, e1, Ba, rfl, rfl⟩
theorem X6 (s : Av) (hs : s.length ≤ A9) (I : Heap) (L : Bs) : Fun Tryz.prog 196 [.string (str s)] I L (TW (Hf [42] s) L) := by
 refine Ao Af ?_; refine Se rfl ?_
 iterate 3 refine Oa rfl ?_
 refine Aa (Se rfl (Om rfl ?_)); refine Ca rfl (Zh s [42] hs _ _) ?_; rintro _ J _ e1 ⟨rfl, rfl⟩
 iterate 3 refine Oe rfl rfl ?_
 iterate 3 refine Oa rfl ?_
 refine Aa ?_; refine Ai (.tmp rfl (.tmp rfl (.tmp rfl .nil))) ?_
 exact ⟨J, L, e1, Ba, rfl, rfl⟩
theorem RStrs.mono {I I' : Heap} (hle : HLe I I') {L : Bs} {oa : Option Addr} {l : List Av} (h : RStrs I L oa l) : RStrs I' L oa l := ⟨fun a ha => N7 hle (h.reads a ha), h.nil, h.len⟩
end Go.Proofs.YtmfagaajiakgoaaGreatDoor
