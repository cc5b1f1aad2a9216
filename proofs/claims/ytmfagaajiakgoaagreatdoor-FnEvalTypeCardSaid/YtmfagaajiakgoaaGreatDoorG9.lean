/- The draws' reader: its picks are within bounds. No conditions. -/
import Derived.Test.YtmfagaajiakgoaaGreatDoorG8

namespace Go.Proofs.YtmfagaajiakgoaaGreatDoor
set_option maxRecDepth 100000
set_option linter.unusedVariables false
set_option linter.unusedSimpArgs false

theorem Bytes.take {I : Heap} {oa : Option Addr} {l : List UInt8} {c : Nat} (h : Bytes I oa l c) (m : Nat) (hm : m ≤ l.length) : Bytes I (if c = 0 then oa else oa.map (·.add (0 * 1))) (l.take m) (c - 0) := by
  have e : (if c = 0 then oa else oa.map (·.add (0 * 1))) = oa := by
    have : ∀ x : Addr, x.add (0 * 1) = x := fun x => by simp [Addr.add]
    cases oa <;> simp [this]
  rw [e]
  refine ⟨fun x hx => ?_, fun hx => by rw [h.nil hx]; simp, by have := h.cap; simp; omega, by have := h.len; simp; omega⟩
  rcases h.still x hx with h0 | ⟨cc, T, fr, hb, hs, hc⟩
  · exact .inl (by have : l = [] := by simpa using h0
                   simp [this])
  · refine .inr ⟨cc, T, fr, hb, hs, fun i hi => ?_⟩
    simp only [List.length_map, List.length_take] at hi
    rw [hc i (by simp; omega)]
    simp

def rd (b : Nat) (oa : Option Addr) (l : List UInt8) (c p : Nat) : Nat × Obj := (b, .cells [.slice oa l.length c, .int .i64 (p : Nat)].toArray 94 (0, 0))
def OP (L : Bh) : C3 := fun v I' L' => ∃ b oa l c, v = .pointer (some ⟨b, 0, none⟩) ∧ Bytes I' oa l c ∧ l.length ≤ 2000 ∧ L' = rd b oa l c 0 :: L
theorem Acs      {I : Heap} {oa : Option Addr} {l : List UInt8} {c : Nat} (h : Bytes I oa l c) (L : Bh ) : Fun Tryz.prog 40 [.slice oa l.length c] I L (OP L) := by
  have hlen := h.len
  have hcap := h.cap
  refine Al        (by simp) ?_
  refine Se rfl (Oa rfl (Ab     (Ah    (Se rfl (Om rfl (On rfl (Oc rfl rfl rfl (Ab     ?_))))))))
  refine Si rfl ?_ ?_
  · intro c0
    refine Ao      rfl (Om rfl ?_)
    refine K1            rfl rfl rfl 0 2000 rfl rfl (by omega) .free rfl ?_
    refine Oa rfl (Ab     (Se rfl (Om rfl ?_)))
    refine Cd       rfl rfl rfl .free rfl ?_
    refine Cc    rfl rfl .free rfl ?_
    intro b10
    refine Oa rfl (Ab     (Ai    (.tmp rfl .nil) ?_))
    first
      | exact ⟨I, _, .refl _, fun _ h => h, _, oa, l, c, rfl, h, by omega, rfl⟩
      | (have h2 := h.take 2000 (by omega)
         have e : (l.take 2000).length = 2000 - 0 := by simp; omega
         exact ⟨I, _, .refl _, fun _ h => h, _, _, l.take 2000, c - 0, rfl, h2, by omega, by unfold rd; rw [e]; rfl⟩)
  intro c0
  refine Aj     (Se rfl (Om rfl ?_))
  refine Cd       rfl rfl rfl .free rfl ?_
  refine Cc    rfl rfl .free rfl ?_
  intro b10
  refine Oa rfl (Ab     (Ai    (.tmp rfl .nil) ?_))
  first
    | exact ⟨I, _, .refl _, fun _ h => h, _, oa, l, c, rfl, h, by omega, rfl⟩
    | (have h2 := h.take 2000 (by omega)
       have e : (l.take 2000).length = 2000 - 0 := by simp; omega
       exact ⟨I, _, .refl _, fun _ h => h, _, _, l.take 2000, c - 0, rfl, h2, by omega, by unfold rd; rw [e]; rfl⟩)

def PK (b : Nat) (oa : Option Addr) (l : List UInt8) (c p n : Nat) (I : Heap) (L : Bh) : C3 := fun v I' L' => ∃ r : Nat, v = .int .i64 (r : Nat) ∧ I = I' ∧ L' = rd b oa l c (p + 1) :: L ∧ (r < n ∨ r = 0)
theorem C0 {I : Heap} {oa : Option Addr} {l : List UInt8} {c : Nat} (h : Bytes I oa l c) (hl : l.length ≤ 2000) (b p n : Nat) (hp : p ≤ 1099511627776) (hn : n ≤ 4294967296) (L : Bh) :
  Fun Tryz.prog 50 [.pointer (some ⟨b, 0, none⟩), .int .i64 (n : Nat)] I (rd b oa l c p :: L) (PK b oa l c p n I L) := by
 unfold rd
 refine Al Af ?_; refine Se rfl (Oa rfl (Ab (Se rfl (Om rfl (Om rfl ?_))))); refine Az rfl .free rfl ?_
 first | refine Oh rfl ?_ | refine Oj rfl ?_
 refine Cp rfl .free rfl ?_; refine Or rfl rfl rfl ?_; refine Az rfl .free rfl ?_
 first | refine Oh rfl ?_ | refine Oj rfl ?_
 refine Bu rfl rfl rfl rfl .free ?_; refine Ab (Ah (Se rfl (Om rfl (Oc rfl rfl rfl (Om rfl ?_)))))
 first | refine G0 rfl rfl ?_ ?_ | refine E3 rfl rfl ?_ ?_ | refine Ly rfl rfl ?_ ?_
 ·intro g2_3
  iterate 6 refine Ch rfl rfl rfl ?_
  refine Ot rfl rfl (Ab ?_); refine Bs rfl ?_; refine Se rfl (Oa rfl (Ab (Ai (.tmp rfl .nil) ?_)))
  exact ⟨I, _, .refl _, fun _ h => h, 0, rfl, rfl, rfl, .inr rfl⟩
 intro g2_3; refine Ow rfl ?_; refine Az rfl (.met rfl rfl) rfl ?_
 first | refine A1 rfl (.met rfl rfl) rfl ?_ | refine Be rfl (.met rfl rfl) rfl ?_
 refine Cp rfl (.met rfl rfl) rfl ?_; refine Ic rfl (.met rfl rfl) rfl ?_; refine Dp rfl rfl rfl (.met rfl rfl) rfl ?_; refine Of rfl rfl (Ab ?_); refine Si rfl ?_ ?_
 ·intro c0; refine Se rfl (Oa rfl (Ab (Ai (.tmp rfl .nil) ?_)))
  exact ⟨I, _, .refl _, fun _ h => h, 0, rfl, rfl, rfl, .inr rfl⟩
 intro c0; refine Aj (Se rfl (Om rfl ?_)); refine Az rfl .free rfl ?_
 first | refine Oh rfl ?_ | refine Oj rfl ?_
 refine Cp rfl .free rfl ?_; refine Or rfl rfl rfl ?_; refine Oa rfl (Ab (Ah (Ah ?_))); refine Kv (t := 5) (v' := .int .i64 (p : Nat)) rfl Ed ?_; refine Ao rfl (Om rfl (Om rfl ?_)); refine Az rfl .free rfl ?_
 first | refine Oh rfl ?_ | refine Oj rfl ?_
 refine Cp rfl .free rfl ?_; refine On rfl (Oc rfl rfl rfl (Ab ?_)); refine Si rfl ?_ ?_
 ·intro c1; obtain ⟨x, hx, hst⟩ := h.at p Aa; refine Se rfl (Om rfl ?_); refine Az rfl .free rfl ?_
  first | refine Oh rfl ?_ | refine Oj rfl ?_
  refine Cp rfl .free rfl ?_; refine Om rfl ?_; refine Ce rfl rfl _ rfl Bp Dh .free rfl ?_; refine Cp rfl .free rfl ?_; refine Mx rfl (by first | exact UInt8.toNat_lt _ | omega) .free rfl ?_; refine Om rfl ?_; refine Afi rfl rfl Aa .free rfl ?_; refine Oa rfl (Ab (Ai (.tmp rfl .nil) ?_))
  exact ⟨I, _, .refl _, fun _ h => h, _, rfl, rfl, rfl, .inl (Nat.mod_lt _ Aa)⟩
 intro c1
 have hpos : 0 < l.length := by omega
 obtain ⟨r1, hr1, hr1l⟩ : ∃ r, r = p % l.length ∧ r < l.length := ⟨_, rfl, Nat.mod_lt _ hpos⟩; obtain ⟨r2, hr2, hr2l⟩ : ∃ r, r = (p * 7 + 3) % l.length ∧ r < l.length := ⟨_, rfl, Nat.mod_lt _ hpos⟩; obtain ⟨q, hq, hqp⟩ : ∃ q, q = p / l.length ∧ q ≤ p := ⟨_, rfl, Nat.div_le_self _ _⟩; obtain ⟨x1, hx1, u1, hu1, hst1⟩ : ∃ x, oa = some x ∧ ∃ u : Nat, u < 256 ∧ Still I (x.add (r1 * 1)) [.int .u8 (u : Nat)] := by
  obtain ⟨x, hx, hst⟩ := h.at r1 hr1l
  exact ⟨x, hx, _, UInt8.toNat_lt _, hst⟩
 obtain ⟨u2, hu2, hst2⟩ : ∃ u : Nat, u < 256 ∧ Still I (x1.add (r2 * 1)) [.int .u8 (u : Nat)] := by
  obtain ⟨x, hx, hst⟩ := h.at r2 hr2l; obtain rfl : x1 = x := by rw [hx1] at hx; exact Option.some.inj hx
  exact ⟨_, UInt8.toNat_lt _, hst⟩
 clear h
 refine Aj (Ah ?_); refine Eb 46 rfl rfl ?_; refine Da 0 rfl (Ak rfl) ?_; refine Da 1 rfl (Dy rfl) ?_
 first | refine Da 2 rfl (Ap rfl) ?_ | refine Da 2 rfl (Bi rfl) ?_
 refine Dt 3 [46] rfl (Nx rfl) ?_; refine Da 4 rfl (Ak rfl) ?_; refine Da 5 rfl (Ak rfl) ?_; refine Da 6 rfl (Dy rfl) ?_
 first | refine Da 7 rfl (Ap rfl) ?_ | refine Da 7 rfl (Bi rfl) ?_
 refine Dt 8 [46] rfl (Nx rfl) ?_; refine Da 9 rfl (Gj rfl) ?_; refine Da 10 rfl (Zz rfl rfl Aa) ?_; refine E0 (t := 57) rfl (v' := .int .i64 (r1 : Nat)) (by rw [hr1]) ?_; refine Gm 11 rfl Ae rfl (.inr Ax) (Im rfl rfl _ rfl Bp Dh) .free rfl ?_; refine Dt 12 [46] rfl (Nx rfl) ?_; refine Gm 13 rfl Ae rfl (.inr Ax) (P5 rfl (by first | exact UInt8.toNat_lt _ | omega)) .free rfl ?_; refine Da 14 rfl (Hm rfl rfl rfl Aa) ?_; refine Da 15 rfl (Ak rfl) ?_; refine Da 16 rfl (Dy rfl) ?_
 first | refine Da 17 rfl (Ap rfl) ?_ | refine Da 17 rfl (Bi rfl) ?_
 refine Dt 18 [46] rfl (Nx rfl) ?_; refine Da 19 rfl (Ak rfl) ?_; refine Da 20 rfl (Hm rfl rfl rfl Aa) ?_; refine Da 21 rfl (Hm rfl rfl rfl Aa) ?_; refine Da 22 rfl (Ak rfl) ?_; refine Da 23 rfl (Dy rfl) ?_
 first | refine Da 24 rfl (Ap rfl) ?_ | refine Da 24 rfl (Bi rfl) ?_
 refine Dt 25 [46] rfl (Nx rfl) ?_; refine Da 26 rfl (Gj rfl) ?_; refine E0 (t := 68) rfl (v' := .int .i64 ((p * 7 + 3 : Nat))) (by congr 1) ?_; refine Da 27 rfl (Zz rfl rfl Aa) ?_; refine E0 (t := 74) rfl (v' := .int .i64 (r2 : Nat)) (by rw [hr2]) ?_; refine Gm 28 rfl Ae rfl (.inr Ax) (Im rfl rfl _ rfl Bp Dh) .free rfl ?_; refine Dt 29 [46] rfl (Nx rfl) ?_; refine Gm 30 rfl Ae rfl (.inr Ax) (P5 rfl (by first | exact UInt8.toNat_lt _ | omega)) .free rfl ?_; refine Da 31 rfl (Hm rfl rfl rfl Aa) ?_; refine Da 32 rfl (Hm rfl rfl rfl Aa) ?_; refine Da 33 rfl (Ak rfl) ?_
 refine Da 34 rfl (Hm rfl rfl rfl Aa) ?_; refine Da 35 rfl (Hm rfl rfl rfl Aa) ?_; refine Da 36 rfl (Ak rfl) ?_; refine Da 37 rfl (Ak rfl) ?_; refine Da 38 rfl (Dy rfl) ?_
 first | refine Da 39 rfl (Ap rfl) ?_ | refine Da 39 rfl (Bi rfl) ?_
 refine Dt 40 [46] rfl (Nx rfl) ?_; refine Da 41 rfl (Gj rfl) ?_; refine Da 42 rfl (Ad0 rfl rfl Aa Aa) ?_; refine E0 (t := 89) rfl (v' := .int .i64 (q : Nat)) (by rw [hq]) ?_; refine Da 43 rfl (Hm rfl rfl rfl Aa) ?_; refine Da 44 rfl (Hm rfl rfl rfl Aa) ?_; refine Da 45 rfl (At rfl) ?_; refine A5 Ae ?_; refine Ah ?_; obtain ⟨m, hm, hm2⟩ : ∃ m : Nat, (m : Int) = ↑u1 * 131 + ↑u2 * 1117 + ↑p * 29 + ↑q * 53 ∧ m ≤ 1152921504606846976 := ⟨u1 * 131 + u2 * 1117 + p * 29 + q * 53, by omega, by omega⟩; refine Kv (t := 6) (v' := .int .i64 (m : Nat)) rfl Ed ?_; refine Ao rfl (Om rfl (Om rfl ?_))
 refine Adj (b := 64) rfl rfl Aa Aa .free rfl ?_; refine Agr rfl rfl Aa Aa .free rfl ?_; refine Oa rfl (Ab (Se rfl (Om rfl (Om rfl ?_)))); refine Afi rfl rfl Aa .free rfl ?_; refine Oa rfl (Ab (Ai (.tmp rfl .nil) ?_))
 exact ⟨I, _, .refl _, fun _ h => h, _, rfl, rfl, rfl, .inl (Nat.mod_lt _ Aa)⟩
def OF (b : Nat) (oa : Option Addr) (l : List UInt8) (c p : Nat) (ts : List As) (I : Heap) (L : Bh) : C3 := fun v I' L' => ∃ s, v = .string (str s) ∧ s ∈ ts ∧ I = I' ∧ L' = rd b oa l c (p + 1) :: L
theorem Ez {I : Heap} {oa : Option Addr} {l : List UInt8} {c : Nat} (h : Bytes I oa l c) (hl : l.length ≤ 2000) (b p : Nat) (hp : p ≤ 1099511627776) {ob : Option Addr} {ts : List As} {c' : Nat} (hts : Strs I ob ts c') (hne : ts ≠ []) (L : Bh) :
  Fun Tryz.prog 80 [.pointer (some ⟨b, 0, none⟩), .slice ob ts.length c'] I (rd b oa l c p :: L) (OF b oa l c p ts I L) := by
 have hlen := hts.len
 unfold Bb at hlen
 have hpos := List.length_pos_iff.2 hne
 refine Al Af ?_; refine Se rfl (Oa rfl (Ab (Se rfl ?_)))
 iterate 3 refine Om rfl ?_
 refine On rfl ?_; refine Ca rfl (C0 h hl b p ts.length hp hlen L) ?_; rintro _ _ _ _ ⟨r, rfl, rfl, rfl, hr⟩; obtain ⟨x, hx, hst⟩ := hts.at r Aa; refine Ce rfl rfl _ rfl Bp Dh .free rfl ?_; refine Cp rfl .free rfl ?_; refine Oa rfl (Ab (Ai (.tmp rfl .nil) ?_))
 exact ⟨I, _, .refl _, fun _ h => h, _, rfl, List.getElem_mem _, rfl, rfl⟩

def LS1 (l : List As) (L : Bh) : C3 := fun v I' L' => ∃ oa c, v = .slice oa (List.length l) c ∧ Strs I' oa l c ∧ L = L'
theorem Ja {I : Heap} {oa ob : Option Addr} {l m : List As} {c c' : Nat} (h : Strs I oa l c) (h' : Strs I ob m c') (hlm : l.length + m.length ≤ Bb) (L : Bh) :
  Fun Tryz.prog 148 [.slice oa l.length c, .slice ob m.length c'] I L (LS1 (l ++ m) L) := by
 unfold Bb at hlm
 refine Al Af ?_; refine Se rfl (Oa rfl (Ab (Se rfl ?_))); refine D9 .free rfl ?_; intro b5; refine Om rfl ?_; refine Iv (B := some (b5, [])) (xs := []) (ys := l.map sv) (m := 0) (c := 0) A4 Ac rfl rfl ⟨rfl, Nat.le_refl _, rfl⟩ (fun _ h => h) Af h.reads h.none (D4 l) Ad Aa Ad .free rfl ?_; intro B1 c1 hB1; refine Om rfl ?_; refine Iv (B := B1) (xs := [] ++ l.map sv) (ys := m.map sv) (m := 0 + l.length) (c := c1) A4 Ac rfl rfl hB1 (fun _ h => h) Af h'.reads h'.none (D4 m) Ad Aa Ad .free rfl ?_; intro B2 c2 hB2; rw [List.nil_append, ← List.map_append] at hB2 ⊢; refine Oa rfl (Ab ?_)
 refine Hk hB2 Af Hb (fun s hs => by rcases List.mem_append.1 hs with hs | hs; exact h.each s hs; exact h'.each s hs) ?_; intro I2 oc c3 hle hv hst; refine Ai (.tmp rfl .nil) ?_
 exact ⟨I2, L, hle, fun _ h => h, oc, c3, hv, hst, rfl⟩

def EV (b : Nat) (oa : Option Addr) (l : List UInt8) (c p : Nat) (L : Bh) : C3 := fun v I' L' => ∃ o1 n1 c1 o2 n2 c2, v = .tuple #[.slice o1 (List.length n1) c1, .slice o2 (List.length n2) c2] ∧ Strs I' o1 n1 c1 ∧ Strs I' o2 n2 c2 ∧ n1.length ≤ 16 ∧ n2.length ≤ 16 ∧ (∀ s ∈ n1, s.length ≤ 16) ∧ (∀ s ∈ n2, s.length ≤ 16) ∧ L' = rd b oa l c (p + 1) :: L
theorem O5 {I : Heap} {b : Nat} {l : List As} {e : TypeId} (hlen : l.length ≤ Bb) (hs : ∀ s ∈ l, s.length ≤ Bb) : Strs (I.set b (.cells (l.map sv).toArray e (0, 0))) (some ⟨b, 0, none⟩) l l.length :=
 ⟨fun y hy => by cases hy; simpa using B0 (xs := l.map sv) (ys := []), by simp, Nat.le_refl _, hlen, hs⟩
theorem Ej {P : Program} {f : FuncId} {n : Nat} {I₀ : Heap} {Q : C3} {k : List Item} {E : Hw} {I : Heap} {L : Bh} {ops : Array Oper} {ol : List Oper} {e : TypeId} {b : Nat} (l : List As) (hlen : l.length ≤ Bb) (hs : ∀ s ∈ l, s.length ≤ Bb)
  (h : ∀ I', HLe I I' → Strs I' (some ⟨b, 0, none⟩) l l.length → A6 P f n I₀ Q ops ol k E I' L) : A6 P f n I₀ Q ops ol k E I ((b, .cells (l.map sv).toArray e (0, 0)) :: L) :=
 Adg fun hle => h _ hle (O5 hlen hs)
def DE (L : Bh) : C3 := fun v I' L' => ∃ o1 n1 c1 o2 n2 c2, v = .tuple #[.slice o1 (List.length n1) c1, .slice o2 (List.length n2) c2] ∧ Strs I' o1 n1 c1 ∧ Strs I' o2 n2 c2 ∧ n1.length ≤ 16 ∧ n2.length ≤ 16 ∧ (∀ s ∈ n1, s.length ≤ 16) ∧ (∀ s ∈ n2, s.length ≤ 16) ∧ L = L'
def DL (L : Bh) : C3 := fun v I' L' => ∃ o1 n1 c1 o2 n2 c2 s, v = .tuple #[.slice o1 (List.length n1) c1, .slice o2 (List.length n2) c2, .string (str s)] ∧ Strs I' o1 n1 c1 ∧ Strs I' o2 n2 c2 ∧ n1.length ≤ 16 ∧ n2.length ≤ 16 ∧ (∀ s ∈ n1, s.length ≤ 16) ∧ (∀ s ∈ n2, s.length ≤ 16) ∧ s.length ≤ 16 ∧ L = L'
theorem Ac0 {I : Heap} {e : TypeId} {ts : List Ty} {xs : List Value} {B : Kx} {c : Nat} (hl : RepL I (ts.map Ty.tree) xs) (hB : Ep 2 ts.length c xs B) :
  ∃ oh c', B8 ts.length c B = .slice oh ts.length c' ∧ ∀ L0, Have I (Cb e xs B ++ L0) oh ts := by
 cases B with
 | none =>
  obtain ⟨h1, h2, h3⟩ := hB; refine ⟨none, 0, by rw [h2]; rfl, fun L0 => ⟨fun k hk => by omega, fun _ => h2⟩⟩
 | some p =>
  obtain ⟨b, sp⟩ := p; refine ⟨some ⟨b, 0, none⟩, c, rfl, fun L0 => ⟨fun k hk => ?_, by simp⟩⟩; obtain ⟨c1, c2, h1, h2, h3⟩ := hl.get k (by simpa using hk); rw [List.getElem_map] at h1; obtain ⟨o1, k1, _, he, _⟩ := h1.open
  simp only [List.cons.injEq, and_true] at he
  obtain ⟨rfl, rfl⟩ := he; refine ⟨o1, k1, h1, fun w hw i hi => ?_⟩
  have e : ((Vd (some ⟨b, 0, none⟩)).add (k * 2)).add i = Addr.add ⟨b, 0, none⟩ (k * 2 + i) := Zg _ _ _
  rw [e, Mn (hw.2.1 _ (List.mem_append_left _ (List.mem_singleton.2 rfl))).1]
  have hlen := hl.length
  simp only [Nat.zero_add, List.getElem?_toArray]
  simp only [List.length_map] at hlen
  match i, hi with
  | 0, _ => rw [List.getElem?_append_left Aa]; simpa using h2
  | 1, _ => rw [List.getElem?_append_left Aa]; simpa using h3
def TOm (r : Except Ex Ty) (ok : Bool) (u w : Tree) : Prop := match r with
 | .ok t => ok = true ∧ u = t.tree
 | .error x => ok = false ∧ w = x.tree
def TO (r : Except Ex Ty) (L : Bh) : C3 := fun v I' L' => ∃ u cs w ds ok, v = .tuple #[.agg cs.toArray, .agg ds.toArray, .bool ok] ∧ Rep I' u cs ∧ Rep I' w ds ∧ L = L' ∧ TOm r ok u w
theorem Afk {r : Except Ex Ty} {ok : Bool} {u w : Tree} (h : TOm r ok u w) (hok : ok = true) : ∃ t, r = .ok t ∧ u = t.tree := by
 cases r with
 | ok t => exact ⟨t, rfl, h.2⟩
 | error x => rw [hok] at h; cases h.1
theorem Afj {r : Except Ex Ty} {ok : Bool} {u w : Tree} (h : TOm r ok u w) (hok : ok = false) : ∃ x, r = .error x ∧ w = x.tree := by
 cases r with
 | ok t => rw [hok] at h; cases h.1
 | error x => exact ⟨x, rfl, h.2⟩
theorem R6 {e : Ex} {r : Option Ty} {ok : Bool} {u : Tree} (h : match r with | some t => ok = true ∧ u = t.tree | none => ok = false) : TOm (e.fin r) (ok && u.typed) u e.tree := by
 cases r with
 | none => exact ⟨by rw [h]; rfl, rfl⟩
 | some t =>
  obtain ⟨rfl, rfl⟩ := h
  simp only [Ex.fin, Ty.tree_typed, Bool.true_and]
  by_cases hz : t.size ≤ 16
  ·rw [if_pos hz]; exact ⟨by simp [hz], rfl⟩
  ·rw [if_neg hz]; exact ⟨by simp [hz], rfl⟩
theorem Ye {I : Heap} {e : Ex} {f x : As} {s t : Ty} {b : Ex} {cs : List Value} (he : e = .fn f x s t b) (hok : e.ok = true) (h : Rep I (Ty.fn s t).tree cs) (L : Bh) : Fun Tryz.prog 107 [.agg cs.toArray] I L (Ee (.bool e.funOk) I L) := by
 subst he
 simp only [Ex.ok, Bool.and_eq_true, decide_eq_true_eq] at hok
 have := He h (by rw [Ty.tree_size]; simp only [Ty.size]; unfold Bb; have := hok.1.1.2; have := hok.1.2; omega) L
 rwa [Ty.tree_typed] at this
structure TR where
 J : Heap
 b1 : Nat
 b2 : Nat
 u : Tree
 w : Tree
 o1 : Option Addr
 k1 : Nat
 o2 : Option Addr
 k2 : Nat
 ok : Bool
structure TG where
 J : Heap
 ts : List Ty
 xs : List Value
 B : Kx
 c : Nat
def TG.is (e : Ex) (l : List As) (m : List Ty) (J0 : Heap) (x : TG) : Prop := HLe J0 x.J ∧ x.ts.length ≤ e.sub.length ∧ RepL x.J (x.ts.map Ty.tree) x.xs ∧ Ep 2 x.ts.length x.c x.xs x.B ∧ smallL x.ts ∧
 e.runs l m = e.run l m (e.sub.drop x.ts.length) ((Cl e.tree).drop x.ts.length) x.ts

set_option maxHeartbeats 1000000 in
theorem Up : ∀ (n : Nat) {I : Heap} {l : List As} {m : List Ty} {oa ob : Option Addr} {c c' : Nat} {e : Ex} {cs : List Value} (_ : SizeOf.sizeOf e < n) (_ : EnvAt I l m oa c ob c') (_ : Rep I e.tree cs) (_ : e.ok = true) (_ : l.length + 2 * e.size ≤ Bb) (L : Bh),
  Fun Tryz.prog 61 [.agg [.slice oa l.length c, .slice ob (m.map Ty.tree).length c'].toArray, .agg cs.toArray] I L (TO (e.chk l m) L) := by
 intro n
 induction n with
 | zero => intro I l m oa ob c c' e cs h; omega
 | succ n ihn =>
  intro I l m oa ob c c' e cs hlt he h hok hroom L; obtain ⟨oc, cc, oaf, cf, rfl, hf⟩ := h.at'
  have hle : HLe I I := .refl _
  have hsm := he.small
  have hsp := e.size_pos
  unfold Bb at hroom
  have hp := hf.len
  unfold Bb at hp
  refine Al Af ?_; refine Se rfl ?_; refine Cc rfl rfl .free rfl ?_; intro b2; refine Cc rfl rfl .free rfl ?_; intro b3; refine A3 .free rfl ?_; intro b4; refine A3 .free rfl ?_; intro b5; refine Oa rfl (Ab (Ah (Se rfl ?_))); refine Bq rfl .free rfl ?_; refine Ca rfl (Cj hf.rep _) ?_; rintro _ _ _ _ ⟨rfl, rfl, rfl⟩; refine Od rfl rfl rfl (Om rfl ?_)
  apply Cy 18 23 rfl
  ·intro g1_4 hk
   try simp only [nb] at g1_4
   obtain ⟨f, x, s, t, b, hfe⟩ := Ex.of_fun g1_4; refine Bq rfl (.met rfl rfl) rfl ?_; refine Cv rfl (.met rfl rfl) rfl (Pe (f := f) (x := x) (s := s) (t := t) (b := b) (Ji hf.rep (by rw [hfe])) _) ?_; rintro _ J _ e0 ⟨cs1, rfl, h1, rfl⟩; obtain ⟨o1, k1, _, rfl, -⟩ := h1.open; refine Cv rfl (.met rfl rfl) rfl (Ye hfe hok h1 _) ?_; rintro _ _ _ _ ⟨rfl, rfl, rfl⟩; refine Fl (fun w h => Mem.le e0 h) ?_; refine Dl rfl (.met rfl rfl) rfl ?_; refine Ot rfl rfl ?_
   exact Au 4 rfl rfl hk
  ·intro _ hk; refine A2 4 rfl ?_; refine Of rfl rfl ?_
   exact Au 4 rfl rfl hk
  refine Ab ?_; refine Av rfl ?_ ?_
  ·intro c0
   try simp only [nb] at c0
   have hbig := Ad5 (l := l) (m := m) c0.2
   refine Ah ?_; refine Eb 5 rfl rfl ?_; refine Da 0 rfl (Em rfl rfl rfl) ?_; refine Fr 1 2 Ae ?_ ?_
   ·skip
    refine Ta 1 rfl rfl (Co rfl) .free rfl (.inr Ax) ?_; refine Dx 2 rfl rfl rfl rfl ?_; refine Dx 3 rfl rfl rfl rfl ?_; refine Db 4 rfl (At rfl) ?_; refine A5 Ae ?_; refine Ai (.c rfl (.c rfl (.tmp rfl .nil))) ?_
    exact ⟨I, L, .refl _, Bj, W2, _, _, _, false, rfl, Mz _, hf.rep, rfl, by rw [hbig]; exact ⟨rfl, rfl⟩⟩
   ·skip
    refine Aek 2 rfl rfl rfl rfl rfl rfl .free (.inl Ae) ?_; refine Sx 1 rfl Ae rfl (Co rfl) .free rfl (.inl Ae) ?_; refine Dx 3 rfl rfl rfl rfl ?_; refine Db 4 rfl (At rfl) ?_; refine A5 Ae ?_; refine Ai (.c rfl (.c rfl (.tmp rfl .nil))) ?_
    exact ⟨I, L, .refl _, Bj, W2, _, _, _, false, rfl, Mz _, hf.rep, rfl, by rw [hbig]; exact ⟨rfl, rfl⟩⟩
  intro c0
  try simp only [nb] at c0
  have hfo : e.funOk = true := by
   rcases c0 with h | h
   ·cases e with
    | fn f x s t b => exact absurd rfl h
    | _ => rfl
   ·exact h
  have hfn := Ach hfo
  have hchk := Ab3 (l := l) hok hsm hfo
  refine Aj (Se rfl (Oa rfl (Ab (Ah (Se rfl ?_))))); refine Bq rfl .free rfl ?_; refine Ca rfl (Gg hf.rep _) ?_; rintro _ J0 _ e1 ⟨ok, ck, rfl, hk, rfl⟩
  have hf := hf.mono e1
  have he := he.mono e1
  have hkl := Zy e
  refine On rfl (Om rfl (Ab (Ar ?_)))
  refine Dv (X := TG) (fun x => e.sub.length - x.ts.length) (fun x => [(2, .pointer (some ⟨b2, 0, none⟩)), (3, .pointer (some ⟨b3, 0, none⟩)), (4, .pointer (some ⟨b4, 0, none⟩)), (5, .pointer (some ⟨b5, 0, none⟩)), (6, .bool false), (7, B8 x.ts.length x.c x.B), (27, .slice ok (Cl e.tree).length ck), (28, .int .i64 ((Cl e.tree).length : Nat)), (29, .int .i64 (x.ts.length : Nat))]) (fun x => x.J) (fun x => Cb 49 x.xs x.B ++ ((b5, .cells [.string (str []), .slice none 0 0].toArray 49 (0, 0)) :: (b4, .cells [.string (str []), .slice none 0 0].toArray 49 (0, 0)) :: (b3, .cells [.string (str e.tree.atom), .slice oc e.tree.parts.length cc].toArray 49 (0, 0)) :: (b2, .cells [.slice oa l.length c, .slice ob (m.map Ty.tree).length c'].toArray 84 (0, 0)) :: L)) (TG.is e l m J0) ⟨J0, [], [], none, 0⟩ ⟨.refl _, Nat.zero_le _, .nil, ⟨rfl, rfl, rfl⟩, (fun _ h => by cases h), rfl⟩ ⟨rfl, rfl, rfl, rfl, rfl, rfl, rfl, rfl, rfl, trivial⟩ (fun _ h => h) ?_
  rintro ⟨J, ts, xs, B, cb⟩ ⟨ez, hi, hl, hB, hst, hrun⟩ ih
  simp only at ez hi hl hB hst hrun ih ⊢
  have hf := hf.mono ez
  have he := he.mono ez
  have hk := hk.mono ez
  have hle := e1.trans ez
  obtain ⟨oh, ch, hbv, hh⟩ := Ac0 (e := 49) hl hB; refine Kv (t := 7) (v' := .slice oh ts.length ch) rfl hbv ?_
  have hn3 : e.sub.length ≤ 3 := by cases e <;> simp [Ex.sub]
  refine Se rfl (Oc rfl rfl rfl (Ab (Ah ?_))); refine Av rfl ?_ ?_
  ·intro c1
   try simp only [nb] at c1
   have hi1 : ts.length < e.sub.length := by omega
   have hkm : (Cl e.tree).getD ts.length 0 ∈ Cl e.tree := by rw [show (Cl e.tree).getD ts.length 0 = (Cl e.tree)[ts.length]'(by omega) by simp [show ts.length < (Cl e.tree).length by omega]]; exact List.getElem_mem _
   have hkt := (Zr hkm).1
   obtain ⟨hs1, hs2, hs3⟩ := Abg (List.getElem_mem hi1)
   have hs3 := hs3 hok
   have hspt := Af8 e ts.length hi1
   have hil := Aem e ((Cl e.tree).getD ts.length 0) l
   rw [Ads hi1] at hrun
   have h0s : (ts.getD 0 .i).size ≤ 16 := by
    cases ts with
    | nil => decide
    | cons t0 ts => exact hst t0 (.head _)
   refine Aj (Ah (Ar (Se rfl ?_)))
   first | refine Bk rfl rfl _ rfl .free rfl ?_ | refine Bl rfl rfl _ rfl .free rfl ?_
   refine Gh rfl .free rfl ?_; refine Oa rfl (Ab (Ah ?_)); refine Eb 20 rfl rfl ?_
   refine Afo (X := TR) (fun x => [(2, .pointer (some ⟨b2, 0, none⟩)), (3, .pointer (some ⟨b3, 0, none⟩)), (4, .pointer (some ⟨b4, 0, none⟩)), (5, .pointer (some ⟨b5, 0, none⟩)), (6, .bool false), (7, .slice oh ts.length ch), (10, .pointer (some ⟨x.b1, 0, none⟩)), (11, .pointer (some ⟨x.b2, 0, none⟩)), (12, .bool x.ok), (27, .slice ok (Cl e.tree).length ck), (28, .int .i64 ((Cl e.tree).length : Nat)), (29, .int .i64 (ts.length : Nat))]) (fun x => x.J) (fun x => [(x.b2, .cells [.string (str x.w.atom), .slice x.o2 x.w.parts.length x.k2].toArray 49 (0, 0)), (x.b1, .cells [.string (str x.u.atom), .slice x.o1 x.u.parts.length x.k1].toArray 49 (0, 0))]) (fun x => HLe J x.J ∧ Rep x.J x.u [.string (str x.u.atom), .slice x.o1 x.u.parts.length x.k1] ∧ Rep x.J x.w [.string (str x.w.atom), .slice x.o2 x.w.parts.length x.k2] ∧ TOm (e.sub[ts.length].chk (e.inL ((Cl e.tree).getD ts.length 0) l) (e.inM ((Cl e.tree).getD ts.length 0) (ts.getD 0 .i) m)) x.ok x.u x.w) ?_ ?_
   ·rintro x0 ⟨ex, hru, hrw, hm⟩
    have hle := hle.trans ex
    simp only [List.cons_append, List.nil_append]
    refine Ah (Se rfl (Om rfl ?_)); refine Dl rfl .free rfl ?_; refine Ab ?_; refine Av rfl ?_ ?_
    ·intro c2
     try simp only [nb] at c2
     obtain ⟨y, hy1, hy2⟩ := Afj hm (by simpa using c2); rw [hy1] at hrun; refine Ah ?_; refine Ck (fun w h => Mem.sub (L' := (x0.b2, _) :: (x0.b1, _) :: (b5, _) :: (b4, _) :: (b3, _) :: (b2, _) :: L) (.cons_cons _ (.cons_cons _ (List.sublist_append_right _ _))) h) ?_; refine Eb 5 rfl rfl ?_; refine Da 0 rfl (Em rfl rfl rfl) ?_; refine Fr 1 2 Ae ?_ ?_
     ·skip
      refine Ta 1 rfl rfl (Ae4 rfl) .free rfl (.inr Ax) ?_; refine Dx 2 rfl rfl rfl rfl ?_; refine Dx 3 rfl rfl rfl rfl ?_; refine Db 4 rfl (At rfl) ?_; refine A5 Ae ?_; refine Ai (.c rfl (.c rfl (.tmp rfl .nil))) ?_
      exact ⟨x0.J, L, hle, Bj, W2, _, _, _, false, rfl, Mz _, hrw, rfl, by rw [hchk, hrun]; exact ⟨rfl, hy2⟩⟩
     ·skip
      refine Aek 2 rfl rfl rfl rfl rfl rfl .free (.inl Ae) ?_; refine Sx 1 rfl Ae rfl (Ae4 rfl) .free rfl (.inl Ae) ?_; refine Dx 3 rfl rfl rfl rfl ?_; refine Db 4 rfl (At rfl) ?_; refine A5 Ae ?_; refine Ai (.c rfl (.c rfl (.tmp rfl .nil))) ?_
      exact ⟨x0.J, L, hle, Bj, W2, _, _, _, false, rfl, Mz _, hrw, rfl, by rw [hchk, hrun]; exact ⟨rfl, hy2⟩⟩
    intro c2
    try simp only [nb] at c2
    obtain ⟨t0, hc0, hu0⟩ := Afk hm (by simpa using c2); rw [hc0] at hrun
    have hz0 := Ex.chk_small hs3 (Aaz hsm h0s hok hfn) hc0
    refine Aj (Ao rfl (Om rfl ?_)); refine H3 rfl .free rfl ?_; refine Ol rfl rfl ?_; intro b54; refine D3 (B := B) (xs := xs) (ys := [.string (str x0.u.atom), .slice x0.o1 x0.u.parts.length x0.k1]) (m := ts.length) (c := cb) A4 Ac (by rw [hbv]; rfl) rfl hB (fun _ h => h.u3) Ac (fun a ha => by cases ha; exact Bg Dk Ac) Af Ac Ad Ad Aa Ad .free rfl ?_; intro bh sp ch2 hB2; refine Oa rfl (Ab (Aq (Ao rfl ?_))); refine Or rfl rfl rfl ?_; refine Om rfl (Ab ?_)
    refine Cw (E' := [(2, .pointer (some ⟨b2, 0, none⟩)), (3, .pointer (some ⟨b3, 0, none⟩)), (4, .pointer (some ⟨b4, 0, none⟩)), (5, .pointer (some ⟨b5, 0, none⟩)), (6, .bool false), (7, B8 (ts ++ [t0]).length ch2 (some (bh, sp))), (27, .slice ok (Cl e.tree).length ck), (28, .int .i64 ((Cl e.tree).length : Nat)), (29, .int .i64 ((ts ++ [t0]).length : Nat))]) ⟨rfl, rfl, rfl, rfl, rfl, (by simp [B8]; rfl), rfl, rfl, (by simp; rfl), trivial⟩ (Ck (fun w h => Mem.sub (L' := (bh, _) :: (b5, _) :: (b4, _) :: (b3, _) :: (b2, _) :: L) Bo h) (ih ⟨x0.J, ts ++ [t0], xs ++ [.string (str x0.u.atom), .slice x0.o1 x0.u.parts.length x0.k1], some (bh, sp), ch2⟩ ⟨ez.trans ex, by simp; omega, ?_, by simpa using hB2, hst.add hz0, by simpa using hrun⟩ Ci))
    have h9 : RepL x0.J [t0.tree] [.string (str x0.u.atom), .slice x0.o1 x0.u.parts.length x0.k1] := by rw [← hu0]; exact .one hru
    simpa using (hl.mono ex).append h9
   ·intro hkk
    skip
    refine Dt 0 [17] rfl (Co rfl) ?_; refine Dt 1 [17] rfl (Co rfl) ?_; refine Da 2 rfl (Ak rfl) ?_; refine Da 3 rfl (Ak rfl) ?_; refine Da 5 rfl (Ap rfl) ?_; refine Dt 6 [17] rfl (Cn rfl) ?_; refine Da 7 rfl (Ak rfl) ?_
    first | refine Da 8 rfl (Bw rfl rfl _ rfl) ?_ | refine Da 8 rfl (Bx rfl rfl _ rfl) ?_
    refine Dt 9 [17] rfl (C7 rfl) ?_; refine Ue 4 15 16 Ae ?_ ?_ ?_
    ·skip
     refine Ft 4 rfl rfl rfl .free rfl (Ih he hf.rep hok _ hkm ((hh _).sub Bj) (fun x a b h h3 => ⟨by
      cases ts with
      | nil => subst h; exact absurd (show (2 : Nat) = 3 from h3) Ad
      | cons t0 ts => simp, h0s⟩) hfn (by unfold Bb; omega)) ?_
     rintro _ J1 _ e2 ⟨oe, ke, of, kf, rfl, he1, rfl⟩; refine Hx ?_; refine Ue 10 15 16 Ae ?_ ?_ ?_
     ·skip
      refine Ft 10 rfl rfl rfl .free rfl (ihn Aa he1 (Ji ((hf.mono e2).rp _ hkt) hspt) hs3 Bz _) ?_; rintro _ J2 _ e3 ⟨u, cs, w', ds, ok', rfl, hru, hrw, rfl, hm⟩; obtain ⟨o1, k1, _, rfl, -⟩ := hru.open; obtain ⟨o2, k2, _, rfl, -⟩ := hrw.open
      have hle1 := e2.trans e3
      refine Hx ?_; refine Da 11 rfl (Ak rfl) ?_; refine Da 12 rfl (A9 rfl rfl) ?_; refine Da 13 rfl (A9 rfl rfl) ?_; refine Da 14 rfl (A9 rfl rfl) ?_; refine Fr 15 16 Ae ?_ ?_
      ·skip
       refine Fy 15 rfl rfl .free rfl (.inr Ax) ?_; intro b10; refine Ig 16 rfl Ae rfl .free rfl (.inr Ax) ?_; intro b11; refine Dx 17 rfl rfl rfl rfl ?_; refine Dx 18 rfl rfl rfl rfl ?_; refine Db 19 rfl (At rfl) ?_; refine A5 Ae ?_
       exact Cw (E' := [(2, _), (3, _), (4, _), (5, _), (6, _), (7, _), (10, _), (11, _), (12, _), (27, _), (28, _), (29, _)]) ⟨rfl, rfl, rfl, rfl, rfl, rfl, rfl, rfl, rfl, rfl, rfl, rfl, trivial⟩ (Ck F1 (hkk ⟨J2, b10, b11, u, w', o1, k1, o2, k2, ok'⟩ ⟨hle1, hru, hrw, hm⟩))
      ·skip
       refine Fy 16 rfl rfl .free rfl (.inr Ax) ?_; intro b11; refine Ig 15 rfl Ae rfl .free rfl (.inr Ax) ?_; intro b10; refine Dx 17 rfl rfl rfl rfl ?_; refine Dx 18 rfl rfl rfl rfl ?_; refine Db 19 rfl (At rfl) ?_; refine A5 Ae ?_
       exact Cw (E' := [(2, _), (3, _), (4, _), (5, _), (6, _), (7, _), (10, _), (11, _), (12, _), (27, _), (28, _), (29, _)]) ⟨rfl, rfl, rfl, rfl, rfl, rfl, rfl, rfl, rfl, rfl, rfl, rfl, trivial⟩ (Ck F1 (hkk ⟨J2, b10, b11, u, w', o1, k1, o2, k2, ok'⟩ ⟨hle1, hru, hrw, hm⟩))
     ·skip
      refine Fy 15 rfl rfl .free rfl (.inr Ax) ?_; intro b10; refine Fr 10 16 Ae ?_ ?_
      ·skip
       refine Ft 10 rfl rfl rfl .free rfl (ihn Aa he1 (Ji ((hf.mono e2).rp _ hkt) hspt) hs3 Bz _) ?_; rintro _ J2 _ e3 ⟨u, cs, w', ds, ok', rfl, hru, hrw, rfl, hm⟩; obtain ⟨o1, k1, _, rfl, -⟩ := hru.open; obtain ⟨o2, k2, _, rfl, -⟩ := hrw.open
       have hle1 := e2.trans e3
       refine Hx ?_; refine Da 11 rfl (Ak rfl) ?_; refine Da 12 rfl (A9 rfl rfl) ?_; refine Da 13 rfl (A9 rfl rfl) ?_; refine Da 14 rfl (A9 rfl rfl) ?_; refine Ig 16 rfl Ae rfl .free rfl (.inr Ax) ?_; intro b11; refine Dx 17 rfl rfl rfl rfl ?_; refine Dx 18 rfl rfl rfl rfl ?_; refine Db 19 rfl (At rfl) ?_; refine A5 Ae ?_
       exact Cw (E' := [(2, _), (3, _), (4, _), (5, _), (6, _), (7, _), (10, _), (11, _), (12, _), (27, _), (28, _), (29, _)]) ⟨rfl, rfl, rfl, rfl, rfl, rfl, rfl, rfl, rfl, rfl, rfl, rfl, trivial⟩ (Ck F1 (hkk ⟨J2, b10, b11, u, w', o1, k1, o2, k2, ok'⟩ ⟨hle1, hru, hrw, hm⟩))
      ·skip
       refine Fy 16 rfl rfl .free rfl (.inr Ax) ?_; intro b11; refine Dc 10 rfl rfl (ihn Aa he1 (Ji ((hf.mono e2).rp _ hkt) hspt) hs3 Bz _) ?_; rintro _ J2 _ e3 ⟨u, cs, w', ds, ok', rfl, hru, hrw, rfl, hm⟩; obtain ⟨o1, k1, _, rfl, -⟩ := hru.open; obtain ⟨o2, k2, _, rfl, -⟩ := hrw.open
       have hle1 := e2.trans e3
       refine Hx ?_; refine Da 11 rfl (Ak rfl) ?_; refine Da 12 rfl (A9 rfl rfl) ?_; refine Da 13 rfl (A9 rfl rfl) ?_; refine Da 14 rfl (A9 rfl rfl) ?_; refine Dx 17 rfl rfl rfl rfl ?_; refine Dx 18 rfl rfl rfl rfl ?_; refine Db 19 rfl (At rfl) ?_; refine A5 Ae ?_
       exact Cw (E' := [(2, _), (3, _), (4, _), (5, _), (6, _), (7, _), (10, _), (11, _), (12, _), (27, _), (28, _), (29, _)]) ⟨rfl, rfl, rfl, rfl, rfl, rfl, rfl, rfl, rfl, rfl, rfl, rfl, trivial⟩ (Ck F1 (hkk ⟨J2, b10, b11, u, w', o1, k1, o2, k2, ok'⟩ ⟨hle1, hru, hrw, hm⟩))
     ·skip
      refine Fy 16 rfl rfl .free rfl (.inr Ax) ?_; intro b11; refine Fr 10 15 Ae ?_ ?_
      ·skip
       refine Ft 10 rfl rfl rfl .free rfl (ihn Aa he1 (Ji ((hf.mono e2).rp _ hkt) hspt) hs3 Bz _) ?_; rintro _ J2 _ e3 ⟨u, cs, w', ds, ok', rfl, hru, hrw, rfl, hm⟩; obtain ⟨o1, k1, _, rfl, -⟩ := hru.open; obtain ⟨o2, k2, _, rfl, -⟩ := hrw.open
       have hle1 := e2.trans e3
       refine Hx ?_; refine Da 11 rfl (Ak rfl) ?_; refine Da 12 rfl (A9 rfl rfl) ?_; refine Da 13 rfl (A9 rfl rfl) ?_; refine Da 14 rfl (A9 rfl rfl) ?_; refine Ig 15 rfl Ae rfl .free rfl (.inr Ax) ?_; intro b10; refine Dx 17 rfl rfl rfl rfl ?_; refine Dx 18 rfl rfl rfl rfl ?_; refine Db 19 rfl (At rfl) ?_; refine A5 Ae ?_
       exact Cw (E' := [(2, _), (3, _), (4, _), (5, _), (6, _), (7, _), (10, _), (11, _), (12, _), (27, _), (28, _), (29, _)]) ⟨rfl, rfl, rfl, rfl, rfl, rfl, rfl, rfl, rfl, rfl, rfl, rfl, trivial⟩ (Ck F1 (hkk ⟨J2, b10, b11, u, w', o1, k1, o2, k2, ok'⟩ ⟨hle1, hru, hrw, hm⟩))
      ·skip
       refine Fy 15 rfl rfl .free rfl (.inr Ax) ?_; intro b10; refine Dc 10 rfl rfl (ihn Aa he1 (Ji ((hf.mono e2).rp _ hkt) hspt) hs3 Bz _) ?_; rintro _ J2 _ e3 ⟨u, cs, w', ds, ok', rfl, hru, hrw, rfl, hm⟩; obtain ⟨o1, k1, _, rfl, -⟩ := hru.open; obtain ⟨o2, k2, _, rfl, -⟩ := hrw.open
       have hle1 := e2.trans e3
       refine Hx ?_; refine Da 11 rfl (Ak rfl) ?_; refine Da 12 rfl (A9 rfl rfl) ?_; refine Da 13 rfl (A9 rfl rfl) ?_; refine Da 14 rfl (A9 rfl rfl) ?_; refine Dx 17 rfl rfl rfl rfl ?_; refine Dx 18 rfl rfl rfl rfl ?_; refine Db 19 rfl (At rfl) ?_; refine A5 Ae ?_
       exact Cw (E' := [(2, _), (3, _), (4, _), (5, _), (6, _), (7, _), (10, _), (11, _), (12, _), (27, _), (28, _), (29, _)]) ⟨rfl, rfl, rfl, rfl, rfl, rfl, rfl, rfl, rfl, rfl, rfl, rfl, trivial⟩ (Ck F1 (hkk ⟨J2, b10, b11, u, w', o1, k1, o2, k2, ok'⟩ ⟨hle1, hru, hrw, hm⟩))
    ·skip
     refine Fy 15 rfl rfl .free rfl (.inr Ax) ?_; intro b10; refine Fr 4 16 Ae ?_ ?_
     ·skip
      refine Ft 4 rfl rfl rfl .free rfl (Ih he hf.rep hok _ hkm ((hh _).sub Bj) (fun x a b h h3 => ⟨by
       cases ts with
       | nil => subst h; exact absurd (show (2 : Nat) = 3 from h3) Ad
       | cons t0 ts => simp, h0s⟩) hfn (by unfold Bb; omega)) ?_
      rintro _ J1 _ e2 ⟨oe, ke, of, kf, rfl, he1, rfl⟩; refine Hx ?_; refine Fr 10 16 Ae ?_ ?_
      ·skip
       refine Ft 10 rfl rfl rfl .free rfl (ihn Aa he1 (Ji ((hf.mono e2).rp _ hkt) hspt) hs3 Bz _) ?_; rintro _ J2 _ e3 ⟨u, cs, w', ds, ok', rfl, hru, hrw, rfl, hm⟩; obtain ⟨o1, k1, _, rfl, -⟩ := hru.open; obtain ⟨o2, k2, _, rfl, -⟩ := hrw.open
       have hle1 := e2.trans e3
       refine Hx ?_; refine Da 11 rfl (Ak rfl) ?_; refine Da 12 rfl (A9 rfl rfl) ?_; refine Da 13 rfl (A9 rfl rfl) ?_; refine Da 14 rfl (A9 rfl rfl) ?_; refine Ig 16 rfl Ae rfl .free rfl (.inr Ax) ?_; intro b11; refine Dx 17 rfl rfl rfl rfl ?_; refine Dx 18 rfl rfl rfl rfl ?_; refine Db 19 rfl (At rfl) ?_; refine A5 Ae ?_
       exact Cw (E' := [(2, _), (3, _), (4, _), (5, _), (6, _), (7, _), (10, _), (11, _), (12, _), (27, _), (28, _), (29, _)]) ⟨rfl, rfl, rfl, rfl, rfl, rfl, rfl, rfl, rfl, rfl, rfl, rfl, trivial⟩ (Ck F1 (hkk ⟨J2, b10, b11, u, w', o1, k1, o2, k2, ok'⟩ ⟨hle1, hru, hrw, hm⟩))
      ·skip
       refine Fy 16 rfl rfl .free rfl (.inr Ax) ?_; intro b11; refine Dc 10 rfl rfl (ihn Aa he1 (Ji ((hf.mono e2).rp _ hkt) hspt) hs3 Bz _) ?_; rintro _ J2 _ e3 ⟨u, cs, w', ds, ok', rfl, hru, hrw, rfl, hm⟩; obtain ⟨o1, k1, _, rfl, -⟩ := hru.open; obtain ⟨o2, k2, _, rfl, -⟩ := hrw.open
       have hle1 := e2.trans e3
       refine Hx ?_; refine Da 11 rfl (Ak rfl) ?_; refine Da 12 rfl (A9 rfl rfl) ?_; refine Da 13 rfl (A9 rfl rfl) ?_; refine Da 14 rfl (A9 rfl rfl) ?_; refine Dx 17 rfl rfl rfl rfl ?_; refine Dx 18 rfl rfl rfl rfl ?_; refine Db 19 rfl (At rfl) ?_; refine A5 Ae ?_
       exact Cw (E' := [(2, _), (3, _), (4, _), (5, _), (6, _), (7, _), (10, _), (11, _), (12, _), (27, _), (28, _), (29, _)]) ⟨rfl, rfl, rfl, rfl, rfl, rfl, rfl, rfl, rfl, rfl, rfl, rfl, trivial⟩ (Ck F1 (hkk ⟨J2, b10, b11, u, w', o1, k1, o2, k2, ok'⟩ ⟨hle1, hru, hrw, hm⟩))
     ·skip
      refine Fy 16 rfl rfl .free rfl (.inr Ax) ?_; intro b11
      refine G3 4 rfl (by kernel_rfl) rfl rfl .free rfl (Ih he hf.rep hok _ hkm ((hh _).sub Bj) (fun x a b h h3 => ⟨by
       cases ts with
       | nil => subst h; exact absurd (show (2 : Nat) = 3 from h3) Ad
       | cons t0 ts => simp, h0s⟩) hfn (by unfold Bb; omega)) ?_
      rintro _ J1 _ e2 ⟨oe, ke, of, kf, rfl, he1, rfl⟩; refine Hx ?_; refine Dc 10 rfl rfl (ihn Aa he1 (Ji ((hf.mono e2).rp _ hkt) hspt) hs3 Bz _) ?_; rintro _ J2 _ e3 ⟨u, cs, w', ds, ok', rfl, hru, hrw, rfl, hm⟩; obtain ⟨o1, k1, _, rfl, -⟩ := hru.open; obtain ⟨o2, k2, _, rfl, -⟩ := hrw.open
      have hle1 := e2.trans e3
      refine Hx ?_; refine Da 11 rfl (Ak rfl) ?_; refine Da 12 rfl (A9 rfl rfl) ?_; refine Da 13 rfl (A9 rfl rfl) ?_; refine Da 14 rfl (A9 rfl rfl) ?_; refine Dx 17 rfl rfl rfl rfl ?_; refine Dx 18 rfl rfl rfl rfl ?_; refine Db 19 rfl (At rfl) ?_; refine A5 Ae ?_
      exact Cw (E' := [(2, _), (3, _), (4, _), (5, _), (6, _), (7, _), (10, _), (11, _), (12, _), (27, _), (28, _), (29, _)]) ⟨rfl, rfl, rfl, rfl, rfl, rfl, rfl, rfl, rfl, rfl, rfl, rfl, trivial⟩ (Ck F1 (hkk ⟨J2, b10, b11, u, w', o1, k1, o2, k2, ok'⟩ ⟨hle1, hru, hrw, hm⟩))
    ·skip
     refine Fy 16 rfl rfl .free rfl (.inr Ax) ?_; intro b11; refine Fr 4 15 Ae ?_ ?_
     ·skip
      refine Ft 4 rfl rfl rfl .free rfl (Ih he hf.rep hok _ hkm ((hh _).sub Bj) (fun x a b h h3 => ⟨by
       cases ts with
       | nil => subst h; exact absurd (show (2 : Nat) = 3 from h3) Ad
       | cons t0 ts => simp, h0s⟩) hfn (by unfold Bb; omega)) ?_
      rintro _ J1 _ e2 ⟨oe, ke, of, kf, rfl, he1, rfl⟩; refine Hx ?_; refine Fr 10 15 Ae ?_ ?_
      ·skip
       refine Ft 10 rfl rfl rfl .free rfl (ihn Aa he1 (Ji ((hf.mono e2).rp _ hkt) hspt) hs3 Bz _) ?_; rintro _ J2 _ e3 ⟨u, cs, w', ds, ok', rfl, hru, hrw, rfl, hm⟩; obtain ⟨o1, k1, _, rfl, -⟩ := hru.open; obtain ⟨o2, k2, _, rfl, -⟩ := hrw.open
       have hle1 := e2.trans e3
       refine Hx ?_; refine Da 11 rfl (Ak rfl) ?_; refine Da 12 rfl (A9 rfl rfl) ?_; refine Da 13 rfl (A9 rfl rfl) ?_; refine Da 14 rfl (A9 rfl rfl) ?_; refine Ig 15 rfl Ae rfl .free rfl (.inr Ax) ?_; intro b10; refine Dx 17 rfl rfl rfl rfl ?_; refine Dx 18 rfl rfl rfl rfl ?_; refine Db 19 rfl (At rfl) ?_; refine A5 Ae ?_
       exact Cw (E' := [(2, _), (3, _), (4, _), (5, _), (6, _), (7, _), (10, _), (11, _), (12, _), (27, _), (28, _), (29, _)]) ⟨rfl, rfl, rfl, rfl, rfl, rfl, rfl, rfl, rfl, rfl, rfl, rfl, trivial⟩ (Ck F1 (hkk ⟨J2, b10, b11, u, w', o1, k1, o2, k2, ok'⟩ ⟨hle1, hru, hrw, hm⟩))
      ·skip
       refine Fy 15 rfl rfl .free rfl (.inr Ax) ?_; intro b10; refine Dc 10 rfl rfl (ihn Aa he1 (Ji ((hf.mono e2).rp _ hkt) hspt) hs3 Bz _) ?_; rintro _ J2 _ e3 ⟨u, cs, w', ds, ok', rfl, hru, hrw, rfl, hm⟩; obtain ⟨o1, k1, _, rfl, -⟩ := hru.open; obtain ⟨o2, k2, _, rfl, -⟩ := hrw.open
       have hle1 := e2.trans e3
       refine Hx ?_; refine Da 11 rfl (Ak rfl) ?_; refine Da 12 rfl (A9 rfl rfl) ?_; refine Da 13 rfl (A9 rfl rfl) ?_; refine Da 14 rfl (A9 rfl rfl) ?_; refine Dx 17 rfl rfl rfl rfl ?_; refine Dx 18 rfl rfl rfl rfl ?_; refine Db 19 rfl (At rfl) ?_; refine A5 Ae ?_
       exact Cw (E' := [(2, _), (3, _), (4, _), (5, _), (6, _), (7, _), (10, _), (11, _), (12, _), (27, _), (28, _), (29, _)]) ⟨rfl, rfl, rfl, rfl, rfl, rfl, rfl, rfl, rfl, rfl, rfl, rfl, trivial⟩ (Ck F1 (hkk ⟨J2, b10, b11, u, w', o1, k1, o2, k2, ok'⟩ ⟨hle1, hru, hrw, hm⟩))
     ·skip
      refine Fy 15 rfl rfl .free rfl (.inr Ax) ?_; intro b10
      refine G3 4 rfl (by kernel_rfl) rfl rfl .free rfl (Ih he hf.rep hok _ hkm ((hh _).sub Bj) (fun x a b h h3 => ⟨by
       cases ts with
       | nil => subst h; exact absurd (show (2 : Nat) = 3 from h3) Ad
       | cons t0 ts => simp, h0s⟩) hfn (by unfold Bb; omega)) ?_
      rintro _ J1 _ e2 ⟨oe, ke, of, kf, rfl, he1, rfl⟩; refine Hx ?_; refine Dc 10 rfl rfl (ihn Aa he1 (Ji ((hf.mono e2).rp _ hkt) hspt) hs3 Bz _) ?_; rintro _ J2 _ e3 ⟨u, cs, w', ds, ok', rfl, hru, hrw, rfl, hm⟩; obtain ⟨o1, k1, _, rfl, -⟩ := hru.open; obtain ⟨o2, k2, _, rfl, -⟩ := hrw.open
      have hle1 := e2.trans e3
      refine Hx ?_; refine Da 11 rfl (Ak rfl) ?_; refine Da 12 rfl (A9 rfl rfl) ?_; refine Da 13 rfl (A9 rfl rfl) ?_; refine Da 14 rfl (A9 rfl rfl) ?_; refine Dx 17 rfl rfl rfl rfl ?_; refine Dx 18 rfl rfl rfl rfl ?_; refine Db 19 rfl (At rfl) ?_; refine A5 Ae ?_
      exact Cw (E' := [(2, _), (3, _), (4, _), (5, _), (6, _), (7, _), (10, _), (11, _), (12, _), (27, _), (28, _), (29, _)]) ⟨rfl, rfl, rfl, rfl, rfl, rfl, rfl, rfl, rfl, rfl, rfl, rfl, trivial⟩ (Ck F1 (hkk ⟨J2, b10, b11, u, w', o1, k1, o2, k2, ok'⟩ ⟨hle1, hru, hrw, hm⟩))
  intro c1
  try simp only [nb] at c1
  rw [Aey Aa] at hrun; rw [hrun] at hchk
  simp only at hchk
  refine Cs rfl ?_; refine Se rfl ?_; refine Bq rfl .free rfl ?_; refine Bq rfl .free rfl ?_; refine Om rfl ?_; refine Ca rfl (Uo he hf.rep hok ((hh _).sub Bj) Aa hfn) ?_; rintro _ J9 _ e9 ⟨u, cs, ok9, rfl, hru9, rfl, hm9⟩; obtain ⟨o9, k9, _, rfl, -⟩ := hru9.open
  have hf := hf.mono e9
  have hle := hle.trans e9
  have hsz : ok9 = true → u.size ≤ Bb := by
   intro h9
   cases hr : e.raw ts l m with
   | none => rw [hr] at hm9; rw [h9] at hm9; cases hm9
   | some t9 =>
    rw [hr] at hm9
    have := Abc hst hsm hfn hr
    rw [hm9.2, Ty.tree_size]; unfold Bb; omega
  refine Om rfl (Oe rfl rfl (Oe rfl rfl ?_)); refine A3 .free rfl ?_; intro b13; refine Bu rfl rfl rfl rfl .free ?_; refine Oa rfl (Ab (Ah ?_)); refine Ck (L' := (b13, _) :: (b5, _) :: (b4, _) :: (b3, _) :: (b2, _) :: L) (fun w h => Mem.sub (.cons_cons _ (List.sublist_append_right _ _)) h) ?_; refine Eb 10 rfl rfl ?_; refine Dt 0 [7] rfl (Co rfl) ?_; refine Da 2 rfl (Ak rfl) ?_; refine Da 3 rfl (Ak rfl) ?_
  first | refine Ae8 (t := 67) rfl ?_ ?_ | refine Agk (t := 67) rfl ?_ ?_
  ·intro g13_4; refine E1 4 [5, 7] rfl Ae rfl Ax (Co rfl) (.met rfl rfl) rfl ?_; refine Fr 1 5 Ae ?_ ?_
   ·skip
    refine Ta 1 rfl rfl (Co rfl) .free rfl (.inr Ax) ?_; refine G3 5 rfl Ae rfl rfl (.met rfl rfl) rfl (He hru9 (hsz g13_4) _) ?_; rintro _ _ _ _ ⟨rfl, rfl, rfl⟩; refine Hx ?_; refine Da 6 rfl (Dq rfl rfl) ?_; refine Dx 7 rfl rfl rfl rfl ?_; refine Dx 8 rfl rfl rfl rfl ?_; refine Db 9 rfl (At rfl) ?_; refine A5 Ae ?_; refine Ai (.c rfl (.c rfl (.tmp rfl .nil))) ?_
    exact ⟨J9, L, hle, Bj, u, _, _, _, _, rfl, hru9, hf.rep, rfl, by rw [hchk]; have := R6 (e := e) hm9; simpa [g13_4] using this⟩
   ·skip
    refine Ft 5 rfl rfl rfl (.met rfl rfl) rfl (He hru9 (hsz g13_4) _) ?_; rintro _ _ _ _ ⟨rfl, rfl, rfl⟩; refine Hx ?_; refine Da 6 rfl (Dq rfl rfl) ?_; refine Fr 1 7 Ae ?_ ?_
    ·skip
     refine Ta 1 rfl rfl (Co rfl) .free rfl (.inr Ax) ?_; refine Dx 7 rfl rfl rfl rfl ?_; refine Dx 8 rfl rfl rfl rfl ?_; refine Db 9 rfl (At rfl) ?_; refine A5 Ae ?_; refine Ai (.c rfl (.c rfl (.tmp rfl .nil))) ?_
     exact ⟨J9, L, hle, Bj, u, _, _, _, _, rfl, hru9, hf.rep, rfl, by rw [hchk]; have := R6 (e := e) hm9; simpa [g13_4] using this⟩
    ·skip
     refine Aek 7 rfl rfl rfl rfl rfl rfl .free (.inl Ae) ?_; refine Sx 1 rfl Ae rfl (Co rfl) .free rfl (.inl Ae) ?_; refine Dx 8 rfl rfl rfl rfl ?_; refine Db 9 rfl (At rfl) ?_; refine A5 Ae ?_; refine Ai (.c rfl (.c rfl (.tmp rfl .nil))) ?_
     exact ⟨J9, L, hle, Bj, u, _, _, _, _, rfl, hru9, hf.rep, rfl, by rw [hchk]; have := R6 (e := e) hm9; simpa [g13_4] using this⟩
  intro g13_4; refine Ds 4 rfl rfl rfl ?_; refine Ds 5 rfl rfl rfl ?_; refine Da 6 rfl (Do rfl rfl) ?_; refine Fr 1 7 Ae ?_ ?_
  ·skip
   refine Ta 1 rfl rfl (Co rfl) .free rfl (.inr Ax) ?_; refine Dx 7 rfl rfl rfl rfl ?_; refine Dx 8 rfl rfl rfl rfl ?_; refine Db 9 rfl (At rfl) ?_; refine A5 Ae ?_; refine Ai (.c rfl (.c rfl (.tmp rfl .nil))) ?_
   exact ⟨J9, L, hle, Bj, u, _, _, _, _, rfl, hru9, hf.rep, rfl, by rw [hchk]; have := R6 (e := e) hm9; simpa [g13_4] using this⟩
  ·skip
   refine Aek 7 rfl rfl rfl rfl rfl rfl .free (.inl Ae) ?_; refine Sx 1 rfl Ae rfl (Co rfl) .free rfl (.inl Ae) ?_; refine Dx 8 rfl rfl rfl rfl ?_; refine Db 9 rfl (At rfl) ?_; refine A5 Ae ?_; refine Ai (.c rfl (.c rfl (.tmp rfl .nil))) ?_
   exact ⟨J9, L, hle, Bj, u, _, _, _, _, rfl, hru9, hf.rep, rfl, by rw [hchk]; have := R6 (e := e) hm9; simpa [g13_4] using this⟩
def E4 (sg s : As) : Option (Ty × Ty) := match I0 s with
 | some (.fn a b) => if sg = [62] then some (a, b) else none
 | some (.pr a b) => if sg = [42] then some (a, b) else none
 | _ => none
def t1 (o : Option (Ty × Ty)) : As := (o.map fun p => p.1.tree.text).getD []
def t2 (o : Option (Ty × Ty)) : As := (o.map fun p => p.2.tree.text).getD []
theorem Nu {sg s : As} (h : I0 s = none) : E4 sg s = none := by unfold E4; rw [h]
theorem Nv {sg s : As} {a : Ty} (h : I0 s = some a) : (a.tree.atom = [] ∧ a.tree.head = sg → ∃ x y, E4 sg s = some (x, y) ∧ a.tree.parts.length = 3 ∧ a.tree.pt 1 = x.tree ∧ a.tree.pt 2 = y.tree) ∧ (¬ (a.tree.atom = [] ∧ a.tree.head = sg) → E4 sg s = none) := by
 unfold E4
 rw [h]
 cases a with
 | i => exact ⟨fun h => absurd h.1 Ad, fun _ => rfl⟩
 | fn x y =>
  refine ⟨fun h => ⟨x, y, if_pos (show sg = [62] from h.2.symm), rfl, rfl, rfl⟩, fun h => if_neg fun e => h ⟨rfl, e.symm⟩⟩
 | pr x y =>
  refine ⟨fun h => ⟨x, y, if_pos (show sg = [42] from h.2.symm), rfl, rfl, rfl⟩, fun h => if_neg fun e => h ⟨rfl, e.symm⟩⟩
def Aet (f : Bool) (a b : Ty) : Ty := if f then .fn a b else .pr a b
def Ahf (f : Bool) (a b : As) : Option As := match I0 a, I0 b with
 | some x, some y => if (Aet f x y).size ≤ 16 then some (Aet f x y).tree.text else none
 | _, _ => none
def sgn (f : Bool) : As := if f then [62] else [42]
theorem Qu (f : Bool) (x y : Ty) : (Aet f x y).tree.text = [40] ++ sgn f ++ [32] ++ x.tree.text ++ [32] ++ y.tree.text ++ [41] := by
 cases f <;> simp [Aet, sgn, Ty.tree, Tree.text, Fz]
def Ahs (h k0 k1 k2 : As) : As :=
 if h = Hl ∧ k0 = [105] ∧ k1 = k2 then k1
 else if h = El ∧ (E4 [62] k0).isSome = true ∧ t1 (E4 [62] k0) = k1 then t2 (E4 [62] k0)
 else if h = D8 then (Ahf false k0 k1).getD []
 else if h = Fn ∧ (E4 [42] k0).isSome = true then t1 (E4 [42] k0)
 else if h = Fo ∧ (E4 [42] k0).isSome = true then t2 (E4 [42] k0)
 else if (h = [43] ∨ h = [45] ∨ h = [42]) ∧ k0 = [105] ∧ k1 = [105] then [105]
 else []
def Ahp (h : As) (n : Nat) : Prop := (∃ o : B5, h = o.txt ∧ n = 2) ∨ (h = Hl ∧ n = 3) ∨ (∃ o : U2, h = o.txt ∧ n = 1)
theorem Y7 {sg : As} {t : Ty} (h : t.size ≤ 16) : E4 sg t.tree.text = match t with
 | .fn a b => if sg = [62] then some (a, b) else none
 | .pr a b => if sg = [42] then some (a, b) else none
 | _ => none := by
 unfold E4
 rw [P2, if_pos h]
 cases t <;> rfl
abbrev tx (m : List Ty) : List As := m.map fun t => t.tree.text
def ST (s : As) (L : Bh) : C3 := fun v I' L' => v = .string (str s) ∧ L = L'
def TW (o : Option (Ty × Ty)) (L : Bh) : C3 := fun v I' L' => v = .tuple #[.string (str (t1 o)), .string (str (t2 o)), .bool o.isSome] ∧ L = L'
theorem Tu {s : As} {t : Tree} {ok : Bool} (hpf : match C5 s with | some t0 => ok = true ∧ t = t0 | none => ok = false) : (ok = true → t.typed = true → ∃ a, I0 s = some a ∧ t = a.tree ∧ a.size ≤ 16) ∧ (ok = false ∨ t.typed = false → I0 s = none) := by
 have e : Eg s = bif ok && t.typed then some t else none := by
  unfold Eg
  cases hp : C5 s with
  | none => rw [hp] at hpf; simp [hpf]
  | some t0 => rw [hp] at hpf; obtain ⟨rfl, rfl⟩ := hpf; simp only [Bool.true_and]
 constructor
 ·intro h1 h2; rw [h1, h2] at e; obtain ⟨a, h3, h4, h5, _⟩ := M1 e
  exact ⟨a, h3, h4, h5⟩
 ·intro h
  have : Eg s = none := by rw [e]; rcases h with h | h <;> simp [h]
  unfold I0; rw [this]; rfl
theorem Zp (s sg : As) (hs : s.length ≤ Bb) (I : Heap) (L : Bh) : Fun Tryz.prog 207 [.string (str s), .string (str sg)] I L (TW (E4 sg s) L) := by
 refine Al Af ?_; refine Se rfl ?_
 iterate 3 refine Oa rfl ?_
 refine Ab (Se rfl (Om rfl ?_)); refine Ca rfl (S8 s hs _ _) ?_; rintro _ J _ e1 ⟨t, cs, ok, rfl, hrep, rfl, hpf⟩; obtain ⟨oa, c, oaf, cf, rfl, hf⟩ := hrep.at'
 have hty := Tu hpf
 have hn := hf.nil
 refine Om rfl (Oe rfl rfl (Oe rfl rfl ?_)); refine A3 .free rfl ?_; intro b7; refine Bu rfl rfl rfl rfl .free ?_; refine Oa rfl (Ab (Ah (Se rfl (Om rfl ?_)))); refine Dl rfl .free rfl ?_; refine Om rfl ?_
 apply F6 16 20 rfl
 ·intro g2_3 hk
  try simp only [nb] at g2_3
  have hp := Fu (If hpf g2_3)
  refine Bq rfl (.met rfl rfl) rfl ?_; refine Cv rfl (.met rfl rfl) rfl (Mr hf.rep hp.1 (Tree.size_maxN hp.2.1) _) ?_; rintro _ _ _ _ ⟨rfl, rfl, rfl⟩; refine Dl rfl (.met rfl rfl) rfl ?_; refine Of rfl rfl ?_
  exact Au 3 rfl rfl hk
 ·intro _ hk; refine A2 3 rfl ?_; refine Ot rfl rfl ?_
  exact Au 3 rfl rfl hk
 refine Om rfl ?_
 apply F6 21 25 rfl
 ·intro g2_8 hk
  try simp only [nb] at g2_8
  refine A1 rfl (.met rfl rfl) rfl ?_; refine Bd rfl (.met rfl rfl) rfl ?_; refine Cg rfl rfl rfl (.met rfl rfl) rfl ?_; refine Of rfl rfl ?_
  exact Au 3 rfl rfl hk
 ·intro _ hk; refine A2 3 rfl ?_; refine Ot rfl rfl ?_
  exact Au 3 rfl rfl hk
 refine Om rfl ?_
 apply F6 26 34 rfl
 ·intro g2_13 hk
  try simp only [nb] at g2_13
  have hp := Fu (If hpf g2_13.1.1)
  have hne := (Li hp.1 (by simpa using g2_13.2)).2
  refine A1 rfl (.met rfl rfl) rfl ?_; refine Bd rfl (.met rfl rfl) rfl ?_
  first | refine Bk rfl rfl 0 rfl (.met rfl rfl) rfl ?_ | refine Bl rfl rfl 0 rfl (.met rfl rfl) rfl ?_
  refine Be rfl (.met rfl rfl) rfl ?_; refine F5 rfl (.met rfl rfl) rfl ?_; refine Ow rfl ?_; refine Cg rfl rfl rfl (.met rfl rfl) rfl ?_; refine Of rfl rfl ?_
  exact Au 7 rfl rfl hk
 ·intro _ hk; refine A2 7 rfl ?_; refine Ot rfl rfl ?_
  exact Au 7 rfl rfl hk
 refine Ab ?_; refine Av rfl ?_ ?_
 ·intro c0
  try simp only [nb] at c0
  refine Se rfl ?_
  iterate 3 refine Oa rfl ?_
  refine Ab ?_; refine Ai (.tmp rfl (.tmp rfl (.tmp rfl .nil))) ?_; refine ⟨J, L, e1, Bj, ?_, rfl⟩
  have hz : E4 sg s = none := by
   by_cases h1 : ok = true
   ·by_cases h2 : t.typed = true
    ·obtain ⟨a, h3, rfl, h4⟩ := hty.1 h1 h2; refine (Nv h3).2 ?_; rintro ⟨h5, h6⟩
     rcases c0 with ((h | h) | h) | h
     ·rw [h1] at h; cases h
     ·rw [h2] at h; cases h
     ·exact h h5
     ·have hp := Fu (If hpf h1)
      exact h ((Mv (Li hp.1 h5).2).symm.trans h6)
    ·exact Nu (hty.2 (.inr (by simpa using h2)))
   ·exact Nu (hty.2 (.inl (by simpa using h1)))
  rw [hz]; rfl
 intro c0
 try simp only [nb] at c0
 obtain ⟨⟨⟨h1, h2⟩, h3⟩, h4⟩ := c0
 have hp := Fu (If hpf h1)
 have hne := (Li hp.1 (by simpa using h3)).2
 obtain ⟨a, h5, rfl, h6⟩ := hty.1 h1 h2; obtain ⟨x, y, h7, h8, h9, h10⟩ := (Nv h5).1 ⟨by simpa using h3, (Mv hne).trans (by simpa using h4)⟩
 have hx := Tree.pt_good hp.1 1 Aa
 have hy := Tree.pt_good hp.1 2 Aa
 have hl1 := a.tree.pt_len 1 Aa
 have hl2 := a.tree.pt_len 2 Aa
 refine Aj (Ah ?_); refine Eb 13 rfl rfl ?_; refine Da 0 rfl (Ap rfl) ?_; refine Dt 1 [13] rfl (Cn rfl) ?_
 first | refine Da 2 rfl (Bw rfl rfl 1 rfl) ?_ | refine Da 2 rfl (Bx rfl rfl 1 rfl) ?_
 refine Dt 3 [13] rfl (C7 rfl) ?_; refine Da 5 rfl (Ap rfl) ?_; refine Dt 6 [13] rfl (Cn rfl) ?_
 first | refine Da 7 rfl (Bw rfl rfl 2 rfl) ?_ | refine Da 7 rfl (Bx rfl rfl 2 rfl) ?_
 refine Dt 8 [13] rfl (C7 rfl) ?_; refine Dc 4 rfl rfl (Ma _ (Nat.lt_succ_self _) (hf.rp 1 Aa) hx Aa _) ?_; rintro _ _ _ _ ⟨rfl, rfl, rfl⟩; refine Hx ?_; refine Dc 9 rfl rfl (Ma _ (Nat.lt_succ_self _) (hf.rp 2 Aa) hy Aa _) ?_; rintro _ _ _ _ ⟨rfl, rfl, rfl⟩; refine Hx ?_; refine Da 10 rfl (At rfl) ?_; refine Da 11 rfl (At rfl) ?_; refine Da 12 rfl (At rfl) ?_; refine A5 Ae ?_; refine Ai (.tmp rfl (.tmp rfl (.tmp rfl .nil))) ?_
 exact ⟨J, L, e1, Bj, by rw [h7, h9, h10]; rfl, rfl⟩
theorem Aal (s : As) (hs : s.length ≤ Bb) (I : Heap) (L : Bh) : Fun Tryz.prog 197 [.string (str s)] I L (TW (E4 [62] s) L) := by
 refine Al Af ?_; refine Se rfl ?_
 iterate 3 refine Oa rfl ?_
 refine Ab (Se rfl (Om rfl ?_)); refine Ca rfl (Zp s [62] hs _ _) ?_; rintro _ J _ e1 ⟨rfl, rfl⟩
 iterate 3 refine Oe rfl rfl ?_
 iterate 3 refine Oa rfl ?_
 refine Ab ?_; refine Ai (.tmp rfl (.tmp rfl (.tmp rfl .nil))) ?_
 exact ⟨J, L, e1, Bj, rfl, rfl⟩
theorem Yh (s : As) (hs : s.length ≤ Bb) (I : Heap) (L : Bh) : Fun Tryz.prog 196 [.string (str s)] I L (TW (E4 [42] s) L) := by
 refine Al Af ?_; refine Se rfl ?_
 iterate 3 refine Oa rfl ?_
 refine Ab (Se rfl (Om rfl ?_)); refine Ca rfl (Zp s [42] hs _ _) ?_; rintro _ J _ e1 ⟨rfl, rfl⟩
 iterate 3 refine Oe rfl rfl ?_
 iterate 3 refine Oa rfl ?_
 refine Ab ?_; refine Ai (.tmp rfl (.tmp rfl (.tmp rfl .nil))) ?_
 exact ⟨J, L, e1, Bj, rfl, rfl⟩
theorem RStrs.mono {I I' : Heap} (hle : HLe I I') {L : Bh} {oa : Option Addr} {l : List As} (h : RStrs I L oa l) : RStrs I' L oa l := ⟨fun a ha => Nq hle (h.reads a ha), h.nil, h.len⟩
end Go.Proofs.YtmfagaajiakgoaaGreatDoor
