/- The draws' reader: its picks are within bounds. No conditions. -/
import Derived.Test.YtmfagaajiakgoaaGreatDoorG8

namespace Go.Proofs.YtmfagaajiakgoaaGreatDoor
set_option maxRecDepth 100000
set_option linter.unusedVariables false
set_option linter.unusedSimpArgs false

theorem Bytes.take {I : Heap} {oa : Option Addr} {l : List UInt8} {c : Nat} (h : Bytes I oa l c) (m : Nat) (hm : m ≤ l.length) : Bytes I (if c = 0 then oa else oa.map (·.add (0 * 1))) (l.take m) (c - 0) := by
  have e : (if c = 0 then oa else oa.map (·.add (0 * 1))) = oa := by
    have : ∀ x : Addr, x.add (0 * 1) = x := fun x => by simp [Addr.add]
    cases oa <;> simp [this]
  rw [e]
  refine ⟨fun x hx => ?_, fun hx => by rw [h.nil hx]; simp, by have := h.cap; simp; omega, by have := h.len; simp; omega⟩
  rcases h.still x hx with h0 | ⟨cc, T, fr, hb, hs, hc⟩
  · exact .inl (by have : l = [] := by simpa using h0
                   simp [this])
  · refine .inr ⟨cc, T, fr, hb, hs, fun i hi => ?_⟩
    simp only [List.length_map, List.length_take] at hi
    rw [hc i (by simp; omega)]
    simp

def rd (b : Nat) (oa : Option Addr) (l : List UInt8) (c p : Nat) : Nat × Obj := (b, .cells [.slice oa l.length c, .int .i64 (p : Nat)].toArray 94 (0, 0))
def OP (L : Bo) : De := fun v I' L' => ∃ b oa l c, v = .pointer (some ⟨b, 0, none⟩) ∧ Bytes I' oa l c ∧ l.length ≤ 2000 ∧ L' = rd b oa l c 0 :: L
theorem Acn      {I : Heap} {oa : Option Addr} {l : List UInt8} {c : Nat} (h : Bytes I oa l c) (L : Bo ) : Fun Tryz.prog 40 [.slice oa l.length c] I L (OP L) := by
  have hlen := h.len
  have hcap := h.cap
  refine Ao        (by simp) ?_
  refine Se rfl (Oa rfl (Ab     (Ah    (Se rfl (Om rfl (On rfl (Oc rfl rfl rfl (Ab     ?_))))))))
  refine Si rfl ?_ ?_
  · intro c0
    refine Am      rfl (Om rfl ?_)
    refine Li            rfl rfl rfl 0 2000 rfl rfl (by omega) .free rfl ?_
    refine Oa rfl (Ab     (Se rfl (Om rfl ?_)))
    refine Cg       rfl rfl rfl .free rfl ?_
    refine Cn    rfl rfl .free rfl ?_
    intro b10
    refine Oa rfl (Ab     (Al    (.tmp rfl .nil) ?_))
    first
      | exact ⟨I, _, .refl _, fun _ h => h, _, oa, l, c, rfl, h, by omega, rfl⟩
      | (have h2 := h.take 2000 (by omega)
         have e : (l.take 2000).length = 2000 - 0 := by simp; omega
         exact ⟨I, _, .refl _, fun _ h => h, _, _, l.take 2000, c - 0, rfl, h2, by omega, by unfold rd; rw [e]; rfl⟩)
  intro c0
  refine Ak     (Se rfl (Om rfl ?_))
  refine Cg       rfl rfl rfl .free rfl ?_
  refine Cn    rfl rfl .free rfl ?_
  intro b10
  refine Oa rfl (Ab     (Al    (.tmp rfl .nil) ?_))
  first
    | exact ⟨I, _, .refl _, fun _ h => h, _, oa, l, c, rfl, h, by omega, rfl⟩
    | (have h2 := h.take 2000 (by omega)
       have e : (l.take 2000).length = 2000 - 0 := by simp; omega
       exact ⟨I, _, .refl _, fun _ h => h, _, _, l.take 2000, c - 0, rfl, h2, by omega, by unfold rd; rw [e]; rfl⟩)

def PK (b : Nat) (oa : Option Addr) (l : List UInt8) (c p n : Nat) (I : Heap) (L : Bo) : De := fun v I' L' => ∃ r : Nat, v = .int .i64 (r : Nat) ∧ I = I' ∧ L' = rd b oa l c (p + 1) :: L ∧ (r < n ∨ r = 0)
theorem D7 {I : Heap} {oa : Option Addr} {l : List UInt8} {c : Nat} (h : Bytes I oa l c) (hl : l.length ≤ 2000) (b p n : Nat) (hp : p ≤ 1099511627776) (hn : n ≤ 4294967296) (L : Bo) :
  Fun Tryz.prog 50 [.pointer (some ⟨b, 0, none⟩), .int .i64 (n : Nat)] I (rd b oa l c p :: L) (PK b oa l c p n I L) := by
 unfold rd
 refine Ao Af ?_; refine Se rfl (Oa rfl (Ab (Se rfl (Om rfl (Om rfl ?_))))); refine Bw rfl .free rfl ?_
 first | refine Oh rfl ?_ | refine Oj rfl ?_
 refine C0 rfl .free rfl ?_; refine Or rfl rfl rfl ?_; refine Bw rfl .free rfl ?_
 first | refine Oh rfl ?_ | refine Oj rfl ?_
 refine Bu rfl rfl rfl rfl .free ?_; refine Ab (Ah (Se rfl (Om rfl (Oc rfl rfl rfl (Om rfl ?_)))))
 first | refine Hd rfl rfl ?_ ?_ | refine Fg rfl rfl ?_ ?_ | refine Mr rfl rfl ?_ ?_
 ·intro g2_3
  iterate 6 refine C1 rfl rfl rfl ?_
  refine Ot rfl rfl (Ab ?_); refine Cx rfl ?_; refine Se rfl (Oa rfl (Ab (Al (.tmp rfl .nil) ?_)))
  exact ⟨I, _, .refl _, fun _ h => h, 0, rfl, rfl, rfl, .inr rfl⟩
 intro g2_3; refine Ow rfl ?_; refine Bw rfl (.met rfl rfl) rfl ?_
 first | refine Cf rfl (.met rfl rfl) rfl ?_ | refine Bg rfl (.met rfl rfl) rfl ?_
 refine C0 rfl (.met rfl rfl) rfl ?_; refine Ht rfl (.met rfl rfl) rfl ?_; refine D0 rfl rfl rfl (.met rfl rfl) rfl ?_; refine Of rfl rfl (Ab ?_); refine Si rfl ?_ ?_
 ·intro c0; refine Se rfl (Oa rfl (Ab (Al (.tmp rfl .nil) ?_)))
  exact ⟨I, _, .refl _, fun _ h => h, 0, rfl, rfl, rfl, .inr rfl⟩
 intro c0; refine Ak (Se rfl (Om rfl ?_)); refine Bw rfl .free rfl ?_
 first | refine Oh rfl ?_ | refine Oj rfl ?_
 refine C0 rfl .free rfl ?_; refine Or rfl rfl rfl ?_; refine Oa rfl (Ab (Ah (Ah ?_))); refine I9 (t := 5) (v' := .int .i64 (p : Nat)) rfl Gl ?_; refine Am rfl (Om rfl (Om rfl ?_)); refine Bw rfl .free rfl ?_
 first | refine Oh rfl ?_ | refine Oj rfl ?_
 refine C0 rfl .free rfl ?_; refine On rfl (Oc rfl rfl rfl (Ab ?_)); refine Si rfl ?_ ?_
 ·intro c1; obtain ⟨x, hx, hst⟩ := h.at p Aa; refine Se rfl (Om rfl ?_); refine Bw rfl .free rfl ?_
  first | refine Oh rfl ?_ | refine Oj rfl ?_
  refine C0 rfl .free rfl ?_; refine Om rfl ?_; refine Cl rfl rfl _ rfl Cc D1 .free rfl ?_; refine C0 rfl .free rfl ?_; refine Nw rfl (by first | exact UInt8.toNat_lt _ | omega) .free rfl ?_; refine Om rfl ?_; refine Afg rfl rfl Aa .free rfl ?_; refine Oa rfl (Ab (Al (.tmp rfl .nil) ?_))
  exact ⟨I, _, .refl _, fun _ h => h, _, rfl, rfl, rfl, .inl (Nat.mod_lt _ Aa)⟩
 intro c1
 have hpos : 0 < l.length := by omega
 obtain ⟨r1, hr1, hr1l⟩ : ∃ r, r = p % l.length ∧ r < l.length := ⟨_, rfl, Nat.mod_lt _ hpos⟩; obtain ⟨r2, hr2, hr2l⟩ : ∃ r, r = (p * 7 + 3) % l.length ∧ r < l.length := ⟨_, rfl, Nat.mod_lt _ hpos⟩; obtain ⟨q, hq, hqp⟩ : ∃ q, q = p / l.length ∧ q ≤ p := ⟨_, rfl, Nat.div_le_self _ _⟩; obtain ⟨x1, hx1, u1, hu1, hst1⟩ : ∃ x, oa = some x ∧ ∃ u : Nat, u < 256 ∧ Still I (x.add (r1 * 1)) [.int .u8 (u : Nat)] := by
  obtain ⟨x, hx, hst⟩ := h.at r1 hr1l
  exact ⟨x, hx, _, UInt8.toNat_lt _, hst⟩
 obtain ⟨u2, hu2, hst2⟩ : ∃ u : Nat, u < 256 ∧ Still I (x1.add (r2 * 1)) [.int .u8 (u : Nat)] := by
  obtain ⟨x, hx, hst⟩ := h.at r2 hr2l; obtain rfl : x1 = x := by rw [hx1] at hx; exact Option.some.inj hx
  exact ⟨_, UInt8.toNat_lt _, hst⟩
 clear h
 refine Ak (Ah ?_); refine Dn 46 rfl rfl ?_; refine Da 0 rfl (Ag rfl) ?_; refine Da 1 rfl (Cy rfl) ?_
 first | refine Da 2 rfl (Aj rfl) ?_ | refine Da 2 rfl (Bi rfl) ?_
 refine Dt 3 [46] rfl (Pa rfl) ?_; refine Da 4 rfl (Ag rfl) ?_; refine Da 5 rfl (Ag rfl) ?_; refine Da 6 rfl (Cy rfl) ?_
 first | refine Da 7 rfl (Aj rfl) ?_ | refine Da 7 rfl (Bi rfl) ?_
 refine Dt 8 [46] rfl (Pa rfl) ?_; refine Da 9 rfl (E4 rfl) ?_; refine Da 10 rfl (Z5 rfl rfl Aa) ?_; refine Eh (t := 57) rfl (v' := .int .i64 (r1 : Nat)) (by rw [hr1]) ?_; refine G8 11 rfl Ad rfl (.inr Ap) (F8 rfl rfl _ rfl Cc D1) .free rfl ?_; refine Dt 12 [46] rfl (Pa rfl) ?_; refine G8 13 rfl Ad rfl (.inr Ap) (Qz rfl (by first | exact UInt8.toNat_lt _ | omega)) .free rfl ?_; refine Da 14 rfl (Id rfl rfl rfl Aa) ?_; refine Da 15 rfl (Ag rfl) ?_; refine Da 16 rfl (Cy rfl) ?_
 first | refine Da 17 rfl (Aj rfl) ?_ | refine Da 17 rfl (Bi rfl) ?_
 refine Dt 18 [46] rfl (Pa rfl) ?_; refine Da 19 rfl (Ag rfl) ?_; refine Da 20 rfl (Id rfl rfl rfl Aa) ?_; refine Da 21 rfl (Id rfl rfl rfl Aa) ?_; refine Da 22 rfl (Ag rfl) ?_; refine Da 23 rfl (Cy rfl) ?_
 first | refine Da 24 rfl (Aj rfl) ?_ | refine Da 24 rfl (Bi rfl) ?_
 refine Dt 25 [46] rfl (Pa rfl) ?_; refine Da 26 rfl (E4 rfl) ?_; refine Eh (t := 68) rfl (v' := .int .i64 ((p * 7 + 3 : Nat))) (by congr 1) ?_; refine Da 27 rfl (Z5 rfl rfl Aa) ?_; refine Eh (t := 74) rfl (v' := .int .i64 (r2 : Nat)) (by rw [hr2]) ?_; refine G8 28 rfl Ad rfl (.inr Ap) (F8 rfl rfl _ rfl Cc D1) .free rfl ?_; refine Dt 29 [46] rfl (Pa rfl) ?_; refine G8 30 rfl Ad rfl (.inr Ap) (Qz rfl (by first | exact UInt8.toNat_lt _ | omega)) .free rfl ?_; refine Da 31 rfl (Id rfl rfl rfl Aa) ?_; refine Da 32 rfl (Id rfl rfl rfl Aa) ?_; refine Da 33 rfl (Ag rfl) ?_
 refine Da 34 rfl (Id rfl rfl rfl Aa) ?_; refine Da 35 rfl (Id rfl rfl rfl Aa) ?_; refine Da 36 rfl (Ag rfl) ?_; refine Da 37 rfl (Ag rfl) ?_; refine Da 38 rfl (Cy rfl) ?_
 first | refine Da 39 rfl (Aj rfl) ?_ | refine Da 39 rfl (Bi rfl) ?_
 refine Dt 40 [46] rfl (Pa rfl) ?_; refine Da 41 rfl (E4 rfl) ?_; refine Da 42 rfl (Ad5 rfl rfl Aa Aa) ?_; refine Eh (t := 89) rfl (v' := .int .i64 (q : Nat)) (by rw [hq]) ?_; refine Da 43 rfl (Id rfl rfl rfl Aa) ?_; refine Da 44 rfl (Id rfl rfl rfl Aa) ?_; refine Da 45 rfl (A5 rfl) ?_; refine At Ad ?_; refine Ah ?_; obtain ⟨m, hm, hm2⟩ : ∃ m : Nat, (m : Int) = ↑u1 * 131 + ↑u2 * 1117 + ↑p * 29 + ↑q * 53 ∧ m ≤ 1152921504606846976 := ⟨u1 * 131 + u2 * 1117 + p * 29 + q * 53, by omega, by omega⟩; refine I9 (t := 6) (v' := .int .i64 (m : Nat)) rfl Gl ?_; refine Am rfl (Om rfl (Om rfl ?_))
 refine Agj (b := 64) rfl rfl Aa Aa .free rfl ?_; refine Agk rfl rfl Aa Aa .free rfl ?_; refine Oa rfl (Ab (Se rfl (Om rfl (Om rfl ?_)))); refine Afg rfl rfl Aa .free rfl ?_; refine Oa rfl (Ab (Al (.tmp rfl .nil) ?_))
 exact ⟨I, _, .refl _, fun _ h => h, _, rfl, rfl, rfl, .inl (Nat.mod_lt _ Aa)⟩
def OF (b : Nat) (oa : Option Addr) (l : List UInt8) (c p : Nat) (ts : List As) (I : Heap) (L : Bo) : De := fun v I' L' => ∃ s, v = .string (str s) ∧ s ∈ ts ∧ I = I' ∧ L' = rd b oa l c (p + 1) :: L
theorem Ff {I : Heap} {oa : Option Addr} {l : List UInt8} {c : Nat} (h : Bytes I oa l c) (hl : l.length ≤ 2000) (b p : Nat) (hp : p ≤ 1099511627776) {ob : Option Addr} {ts : List As} {c' : Nat} (hts : Strs I ob ts c') (hne : ts ≠ []) (L : Bo) :
  Fun Tryz.prog 80 [.pointer (some ⟨b, 0, none⟩), .slice ob ts.length c'] I (rd b oa l c p :: L) (OF b oa l c p ts I L) := by
 have hlen := hts.len
 unfold Ba at hlen
 have hpos := List.length_pos_iff.2 hne
 refine Ao Af ?_; refine Se rfl (Oa rfl (Ab (Se rfl ?_)))
 iterate 3 refine Om rfl ?_
 refine On rfl ?_; refine Ca rfl (D7 h hl b p ts.length hp hlen L) ?_; rintro _ _ _ _ ⟨r, rfl, rfl, rfl, hr⟩; obtain ⟨x, hx, hst⟩ := hts.at r Aa; refine Cl rfl rfl _ rfl Cc D1 .free rfl ?_; refine C0 rfl .free rfl ?_; refine Oa rfl (Ab (Al (.tmp rfl .nil) ?_))
 exact ⟨I, _, .refl _, fun _ h => h, _, rfl, List.getElem_mem _, rfl, rfl⟩

def LS1 (l : List As) (L : Bo) : De := fun v I' L' => ∃ oa c, v = .slice oa (List.length l) c ∧ Strs I' oa l c ∧ L = L'
theorem Lr {I : Heap} {oa ob : Option Addr} {l m : List As} {c c' : Nat} (h : Strs I oa l c) (h' : Strs I ob m c') (hlm : l.length + m.length ≤ Ba) (L : Bo) :
  Fun Tryz.prog 148 [.slice oa l.length c, .slice ob m.length c'] I L (LS1 (l ++ m) L) := by
 unfold Ba at hlm
 refine Ao Af ?_; refine Se rfl (Oa rfl (Ab (Se rfl ?_))); refine Do .free rfl ?_; intro b5; refine Om rfl ?_; refine Gd (B := some (b5, [])) (xs := []) (ys := l.map sv) (m := 0) (c := 0) Au Ac rfl rfl ⟨rfl, Nat.le_refl _, rfl⟩ (fun _ h => h) Af h.reads h.none (Ct l) Ae Aa Ae .free rfl ?_; intro B1 c1 hB1; refine Om rfl ?_; refine Gd (B := B1) (xs := [] ++ l.map sv) (ys := m.map sv) (m := 0 + l.length) (c := c1) Au Ac rfl rfl hB1 (fun _ h => h) Af h'.reads h'.none (Ct m) Ae Aa Ae .free rfl ?_; intro B2 c2 hB2; rw [List.nil_append, ← List.map_append] at hB2 ⊢; refine Oa rfl (Ab ?_)
 refine Gr hB2 Af Ip (fun s hs => by rcases List.mem_append.1 hs with hs | hs; exact h.each s hs; exact h'.each s hs) ?_; intro I2 oc c3 hle hv hst; refine Al (.tmp rfl .nil) ?_
 exact ⟨I2, L, hle, fun _ h => h, oc, c3, hv, hst, rfl⟩

def EV (b : Nat) (oa : Option Addr) (l : List UInt8) (c p : Nat) (L : Bo) : De := fun v I' L' => ∃ o1 n1 c1 o2 n2 c2, v = .tuple #[.slice o1 (List.length n1) c1, .slice o2 (List.length n2) c2] ∧ Strs I' o1 n1 c1 ∧ Strs I' o2 n2 c2 ∧ n1.length ≤ 16 ∧ n2.length ≤ 16 ∧ (∀ s ∈ n1, s.length ≤ 16) ∧ (∀ s ∈ n2, s.length ≤ 16) ∧ L' = rd b oa l c (p + 1) :: L
theorem P1 {I : Heap} {b : Nat} {l : List As} {e : TypeId} (hlen : l.length ≤ Ba) (hs : ∀ s ∈ l, s.length ≤ Ba) : Strs (I.set b (.cells (l.map sv).toArray e (0, 0))) (some ⟨b, 0, none⟩) l l.length :=
 ⟨fun y hy => by cases hy; simpa using A6 (xs := l.map sv) (ys := []), by simp, Nat.le_refl _, hlen, hs⟩
theorem D5 {P : Program} {f : FuncId} {n : Nat} {I₀ : Heap} {Q : De} {k : List Item} {E : Hy} {I : Heap} {L : Bo} {ops : Array Oper} {ol : List Oper} {e : TypeId} {b : Nat} (l : List As) (hlen : l.length ≤ Ba) (hs : ∀ s ∈ l, s.length ≤ Ba)
  (h : ∀ I', HLe I I' → Strs I' (some ⟨b, 0, none⟩) l l.length → Bd P f n I₀ Q ops ol k E I' L) : Bd P f n I₀ Q ops ol k E I ((b, .cells (l.map sv).toArray e (0, 0)) :: L) :=
 G2 fun hle => h _ hle (P1 hlen hs)
def DE (L : Bo) : De := fun v I' L' => ∃ o1 n1 c1 o2 n2 c2, v = .tuple #[.slice o1 (List.length n1) c1, .slice o2 (List.length n2) c2] ∧ Strs I' o1 n1 c1 ∧ Strs I' o2 n2 c2 ∧ n1.length ≤ 16 ∧ n2.length ≤ 16 ∧ (∀ s ∈ n1, s.length ≤ 16) ∧ (∀ s ∈ n2, s.length ≤ 16) ∧ L = L'
def DL (L : Bo) : De := fun v I' L' => ∃ o1 n1 c1 o2 n2 c2 s, v = .tuple #[.slice o1 (List.length n1) c1, .slice o2 (List.length n2) c2, .string (str s)] ∧ Strs I' o1 n1 c1 ∧ Strs I' o2 n2 c2 ∧ n1.length ≤ 16 ∧ n2.length ≤ 16 ∧ (∀ s ∈ n1, s.length ≤ 16) ∧ (∀ s ∈ n2, s.length ≤ 16) ∧ s.length ≤ 16 ∧ L = L'
theorem Acp {I : Heap} {e : TypeId} {ts : List Ty} {xs : List Value} {B : Kd} {c : Nat} (hl : RepL I (ts.map Ty.tree) xs) (hB : C8 2 ts.length c xs B) :
  ∃ oh c', Bn ts.length c B = .slice oh ts.length c' ∧ ∀ L0, Have I (A8 e xs B ++ L0) oh ts := by
 cases B with
 | none =>
  obtain ⟨h1, h2, h3⟩ := hB; refine ⟨none, 0, by rw [h2]; rfl, fun L0 => ⟨fun k hk => by omega, fun _ => h2⟩⟩
 | some p =>
  obtain ⟨b, sp⟩ := p; refine ⟨some ⟨b, 0, none⟩, c, rfl, fun L0 => ⟨fun k hk => ?_, by simp⟩⟩; obtain ⟨c1, c2, h1, h2, h3⟩ := hl.get k (by simpa using hk); rw [List.getElem_map] at h1; obtain ⟨o1, k1, _, he, _⟩ := h1.open
  simp only [List.cons.injEq, and_true] at he
  obtain ⟨rfl, rfl⟩ := he; refine ⟨o1, k1, h1, fun w hw i hi => ?_⟩
  have e : ((Wb (some ⟨b, 0, none⟩)).add (k * 2)).add i = Addr.add ⟨b, 0, none⟩ (k * 2 + i) := Zm _ _ _
  rw [e, Nn (hw.2.1 _ (List.mem_append_left _ (List.mem_singleton.2 rfl))).1]
  have hlen := hl.length
  simp only [Nat.zero_add, List.getElem?_toArray]
  simp only [List.length_map] at hlen
  match i, hi with
  | 0, _ => rw [List.getElem?_append_left Aa]; simpa using h2
  | 1, _ => rw [List.getElem?_append_left Aa]; simpa using h3
def TOm (r : Except Ex Ty) (ok : Bool) (u w : Tree) : Prop := match r with
 | .ok t => ok = true ∧ u = t.tree
 | .error x => ok = false ∧ w = x.tree
def TO (r : Except Ex Ty) (L : Bo) : De := fun v I' L' => ∃ u cs w ds ok, v = .tuple #[.agg cs.toArray, .agg ds.toArray, .bool ok] ∧ Rep I' u cs ∧ Rep I' w ds ∧ L = L' ∧ TOm r ok u w
theorem Afi {r : Except Ex Ty} {ok : Bool} {u w : Tree} (h : TOm r ok u w) (hok : ok = true) : ∃ t, r = .ok t ∧ u = t.tree := by
 cases r with
 | ok t => exact ⟨t, rfl, h.2⟩
 | error x => rw [hok] at h; cases h.1
theorem Afh {r : Except Ex Ty} {ok : Bool} {u w : Tree} (h : TOm r ok u w) (hok : ok = false) : ∃ x, r = .error x ∧ w = x.tree := by
 cases r with
 | ok t => rw [hok] at h; cases h.1
 | error x => exact ⟨x, rfl, h.2⟩
theorem Tl {e : Ex} {r : Option Ty} {ok : Bool} {u : Tree} (h : match r with | some t => ok = true ∧ u = t.tree | none => ok = false) : TOm (e.fin r) (ok && u.typed) u e.tree := by
 cases r with
 | none => exact ⟨by rw [h]; rfl, rfl⟩
 | some t =>
  obtain ⟨rfl, rfl⟩ := h
  simp only [Ex.fin, Ty.tree_typed, Bool.true_and]
  by_cases hz : t.size ≤ 16
  ·rw [if_pos hz]; exact ⟨by simp [hz], rfl⟩
  ·rw [if_neg hz]; exact ⟨by simp [hz], rfl⟩
theorem Yu {I : Heap} {e : Ex} {f x : As} {s t : Ty} {b : Ex} {cs : List Value} (he : e = .fn f x s t b) (hok : e.ok = true) (h : Rep I (Ty.fn s t).tree cs) (L : Bo) : Fun Tryz.prog 107 [.agg cs.toArray] I L (E1 (.bool e.funOk) I L) := by
 subst he
 simp only [Ex.ok, Bool.and_eq_true, decide_eq_true_eq] at hok
 have := H1 h (by rw [Ty.tree_size]; simp only [Ty.size]; unfold Ba; have := hok.1.1.2; have := hok.1.2; omega) L
 rwa [Ty.tree_typed] at this
structure TR where
 J : Heap
 b1 : Nat
 b2 : Nat
 u : Tree
 w : Tree
 o1 : Option Addr
 k1 : Nat
 o2 : Option Addr
 k2 : Nat
 ok : Bool
structure TG where
 J : Heap
 ts : List Ty
 xs : List Value
 B : Kd
 c : Nat
def TG.is (e : Ex) (l : List As) (m : List Ty) (J0 : Heap) (x : TG) : Prop := HLe J0 x.J ∧ x.ts.length ≤ e.sub.length ∧ RepL x.J (x.ts.map Ty.tree) x.xs ∧ C8 2 x.ts.length x.c x.xs x.B ∧ smallL x.ts ∧
 e.runs l m = e.run l m (e.sub.drop x.ts.length) ((C3 e.tree).drop x.ts.length) x.ts

set_option maxHeartbeats 1000000 in
theorem Vq : ∀ (n : Nat) {I : Heap} {l : List As} {m : List Ty} {oa ob : Option Addr} {c c' : Nat} {e : Ex} {cs : List Value} (_ : SizeOf.sizeOf e < n) (_ : EnvAt I l m oa c ob c') (_ : Rep I e.tree cs) (_ : e.ok = true) (_ : l.length + 2 * e.size ≤ Ba) (L : Bo),
  Fun Tryz.prog 61 [.agg [.slice oa l.length c, .slice ob (m.map Ty.tree).length c'].toArray, .agg cs.toArray] I L (TO (e.chk l m) L) := by
 intro n
 induction n with
 | zero => intro I l m oa ob c c' e cs h; omega
 | succ n ihn =>
  intro I l m oa ob c c' e cs hlt he h hok hroom L; obtain ⟨oc, cc, oaf, cf, rfl, hf⟩ := h.at'
  have hle : HLe I I := .refl _
  have hsm := he.small
  have hsp := e.size_pos
  unfold Ba at hroom
  have hp := hf.len
  unfold Ba at hp
  refine Ao Af ?_; refine Se rfl ?_; refine Cn rfl rfl .free rfl ?_; intro b2; refine Cn rfl rfl .free rfl ?_; intro b3; refine Aw .free rfl ?_; intro b4; refine Aw .free rfl ?_; intro b5; refine Oa rfl (Ab (Ah (Se rfl ?_))); refine A2 rfl .free rfl ?_; refine Ca rfl (Bq hf.rep _) ?_; rintro _ _ _ _ ⟨rfl, rfl, rfl⟩; refine Od rfl rfl rfl (Om rfl ?_)
  apply Ep 18 23 rfl
  ·intro g1_4 hk
   try simp only [nb] at g1_4
   obtain ⟨f, x, s, t, b, hfe⟩ := Ex.of_fun g1_4; refine A2 rfl (.met rfl rfl) rfl ?_; refine Cq rfl (.met rfl rfl) rfl (P9 (f := f) (x := x) (s := s) (t := t) (b := b) (Jz hf.rep (by rw [hfe])) _) ?_; rintro _ J _ e0 ⟨cs1, rfl, h1, rfl⟩; obtain ⟨o1, k1, _, rfl, -⟩ := h1.open; refine Cq rfl (.met rfl rfl) rfl (Yu hfe hok h1 _) ?_; rintro _ _ _ _ ⟨rfl, rfl, rfl⟩; refine Dp (fun w h => Mem.le e0 h) ?_; refine Ec rfl (.met rfl rfl) rfl ?_; refine Ot rfl rfl ?_
   exact A7 4 rfl rfl hk
  ·intro _ hk; refine Bj 4 rfl ?_; refine Of rfl rfl ?_
   exact A7 4 rfl rfl hk
  refine Ab ?_; refine A0 rfl ?_ ?_
  ·intro c0
   try simp only [nb] at c0
   have hbig := Aec (l := l) (m := m) c0.2
   refine Ah ?_; refine Dn 5 rfl rfl ?_; refine Da 0 rfl (E0 rfl rfl rfl) ?_; refine El 1 2 Ad ?_ ?_
   ·skip
    refine Lw 1 rfl rfl (Cd rfl) .free rfl (.inr Ap) ?_; refine Dx 2 rfl rfl rfl rfl ?_; refine Dx 3 rfl rfl rfl rfl ?_; refine Db 4 rfl (A5 rfl) ?_; refine At Ad ?_; refine Al (.c rfl (.c rfl (.tmp rfl .nil))) ?_
    exact ⟨I, L, .refl _, Bk, Xq, _, _, _, false, rfl, Nx _, hf.rep, rfl, by rw [hbig]; exact ⟨rfl, rfl⟩⟩
   ·skip
    refine Oy 2 rfl rfl rfl rfl rfl rfl .free (.inl Ad) ?_; refine M2 1 rfl Ad rfl (Cd rfl) .free rfl (.inl Ad) ?_; refine Dx 3 rfl rfl rfl rfl ?_; refine Db 4 rfl (A5 rfl) ?_; refine At Ad ?_; refine Al (.c rfl (.c rfl (.tmp rfl .nil))) ?_
    exact ⟨I, L, .refl _, Bk, Xq, _, _, _, false, rfl, Nx _, hf.rep, rfl, by rw [hbig]; exact ⟨rfl, rfl⟩⟩
  intro c0
  try simp only [nb] at c0
  have hfo : e.funOk = true := by
   rcases c0 with h | h
   ·cases e with
    | fn f x s t b => exact absurd rfl h
    | _ => rfl
   ·exact h
  have hfn := Acd hfo
  have hchk := Ab2 (l := l) hok hsm hfo
  refine Ak (Se rfl (Oa rfl (Ab (Ah (Se rfl ?_))))); refine A2 rfl .free rfl ?_; refine Ca rfl (Cr hf.rep _) ?_; rintro _ J0 _ e1 ⟨ok, ck, rfl, hk, rfl⟩
  have hf := hf.mono e1
  have he := he.mono e1
  have hkl := Z3 e
  refine On rfl (Om rfl (Ab (Aq ?_)))
  refine C7 (X := TG) (fun x => e.sub.length - x.ts.length) (fun x => [(2, .pointer (some ⟨b2, 0, none⟩)), (3, .pointer (some ⟨b3, 0, none⟩)), (4, .pointer (some ⟨b4, 0, none⟩)), (5, .pointer (some ⟨b5, 0, none⟩)), (6, .bool false), (7, Bn x.ts.length x.c x.B), (27, .slice ok (C3 e.tree).length ck), (28, .int .i64 ((C3 e.tree).length : Nat)), (29, .int .i64 (x.ts.length : Nat))]) (fun x => x.J) (fun x => A8 49 x.xs x.B ++ ((b5, .cells [.string (str []), .slice none 0 0].toArray 49 (0, 0)) :: (b4, .cells [.string (str []), .slice none 0 0].toArray 49 (0, 0)) :: (b3, .cells [.string (str e.tree.atom), .slice oc e.tree.parts.length cc].toArray 49 (0, 0)) :: (b2, .cells [.slice oa l.length c, .slice ob (m.map Ty.tree).length c'].toArray 84 (0, 0)) :: L)) (TG.is e l m J0) ⟨J0, [], [], none, 0⟩ ⟨.refl _, Nat.zero_le _, .nil, ⟨rfl, rfl, rfl⟩, (fun _ h => by cases h), rfl⟩ ⟨rfl, rfl, rfl, rfl, rfl, rfl, rfl, rfl, rfl, trivial⟩ (fun _ h => h) ?_
  rintro ⟨J, ts, xs, B, cb⟩ ⟨ez, hi, hl, hB, hst, hrun⟩ ih
  simp only at ez hi hl hB hst hrun ih ⊢
  have hf := hf.mono ez
  have he := he.mono ez
  have hk := hk.mono ez
  have hle := e1.trans ez
  obtain ⟨oh, ch, hbv, hh⟩ := Acp (e := 49) hl hB; refine I9 (t := 7) (v' := .slice oh ts.length ch) rfl hbv ?_
  have hn3 : e.sub.length ≤ 3 := by cases e <;> simp [Ex.sub]
  refine Se rfl (Oc rfl rfl rfl (Ab (Ah ?_))); refine A0 rfl ?_ ?_
  ·intro c1
   try simp only [nb] at c1
   have hi1 : ts.length < e.sub.length := by omega
   have hkm : (C3 e.tree).getD ts.length 0 ∈ C3 e.tree := by rw [show (C3 e.tree).getD ts.length 0 = (C3 e.tree)[ts.length]'(by omega) by simp [show ts.length < (C3 e.tree).length by omega]]; exact List.getElem_mem _
   have hkt := (Zy hkm).1
   obtain ⟨hs1, hs2, hs3⟩ := Abl (List.getElem_mem hi1)
   have hs3 := hs3 hok
   have hspt := Afy e ts.length hi1
   have hil := Ael e ((C3 e.tree).getD ts.length 0) l
   rw [Ady hi1] at hrun
   have h0s : (ts.getD 0 .i).size ≤ 16 := by
    cases ts with
    | nil => decide
    | cons t0 ts => exact hst t0 (.head _)
   refine Ak (Ah (Aq (Se rfl ?_)))
   first | refine Bx rfl rfl _ rfl .free rfl ?_ | refine By rfl rfl _ rfl .free rfl ?_
   refine Ei rfl .free rfl ?_; refine Oa rfl (Ab (Ah ?_)); refine Dn 20 rfl rfl ?_
   refine Afl (X := TR) (fun x => [(2, .pointer (some ⟨b2, 0, none⟩)), (3, .pointer (some ⟨b3, 0, none⟩)), (4, .pointer (some ⟨b4, 0, none⟩)), (5, .pointer (some ⟨b5, 0, none⟩)), (6, .bool false), (7, .slice oh ts.length ch), (10, .pointer (some ⟨x.b1, 0, none⟩)), (11, .pointer (some ⟨x.b2, 0, none⟩)), (12, .bool x.ok), (27, .slice ok (C3 e.tree).length ck), (28, .int .i64 ((C3 e.tree).length : Nat)), (29, .int .i64 (ts.length : Nat))]) (fun x => x.J) (fun x => [(x.b2, .cells [.string (str x.w.atom), .slice x.o2 x.w.parts.length x.k2].toArray 49 (0, 0)), (x.b1, .cells [.string (str x.u.atom), .slice x.o1 x.u.parts.length x.k1].toArray 49 (0, 0))]) (fun x => HLe J x.J ∧ Rep x.J x.u [.string (str x.u.atom), .slice x.o1 x.u.parts.length x.k1] ∧ Rep x.J x.w [.string (str x.w.atom), .slice x.o2 x.w.parts.length x.k2] ∧ TOm (e.sub[ts.length].chk (e.inL ((C3 e.tree).getD ts.length 0) l) (e.inM ((C3 e.tree).getD ts.length 0) (ts.getD 0 .i) m)) x.ok x.u x.w) ?_ ?_
   ·rintro x0 ⟨ex, hru, hrw, hm⟩
    have hle := hle.trans ex
    simp only [List.cons_append, List.nil_append]
    refine Ah (Se rfl (Om rfl ?_)); refine Ec rfl .free rfl ?_; refine Ab ?_; refine A0 rfl ?_ ?_
    ·intro c2
     try simp only [nb] at c2
     obtain ⟨y, hy1, hy2⟩ := Afh hm (by simpa using c2); rw [hy1] at hrun; refine Ah ?_; refine Cs (fun w h => Mem.sub (L' := (x0.b2, _) :: (x0.b1, _) :: (b5, _) :: (b4, _) :: (b3, _) :: (b2, _) :: L) (.cons_cons _ (.cons_cons _ (List.sublist_append_right _ _))) h) ?_; refine Dn 5 rfl rfl ?_; refine Da 0 rfl (E0 rfl rfl rfl) ?_; refine El 1 2 Ad ?_ ?_
     ·skip
      refine Lw 1 rfl rfl (O9 rfl) .free rfl (.inr Ap) ?_; refine Dx 2 rfl rfl rfl rfl ?_; refine Dx 3 rfl rfl rfl rfl ?_; refine Db 4 rfl (A5 rfl) ?_; refine At Ad ?_; refine Al (.c rfl (.c rfl (.tmp rfl .nil))) ?_
      exact ⟨x0.J, L, hle, Bk, Xq, _, _, _, false, rfl, Nx _, hrw, rfl, by rw [hchk, hrun]; exact ⟨rfl, hy2⟩⟩
     ·skip
      refine Oy 2 rfl rfl rfl rfl rfl rfl .free (.inl Ad) ?_; refine M2 1 rfl Ad rfl (O9 rfl) .free rfl (.inl Ad) ?_; refine Dx 3 rfl rfl rfl rfl ?_; refine Db 4 rfl (A5 rfl) ?_; refine At Ad ?_; refine Al (.c rfl (.c rfl (.tmp rfl .nil))) ?_
      exact ⟨x0.J, L, hle, Bk, Xq, _, _, _, false, rfl, Nx _, hrw, rfl, by rw [hchk, hrun]; exact ⟨rfl, hy2⟩⟩
    intro c2
    try simp only [nb] at c2
    obtain ⟨t0, hc0, hu0⟩ := Afi hm (by simpa using c2); rw [hc0] at hrun
    have hz0 := Ex.chk_small hs3 (Aas hsm h0s hok hfn) hc0
    refine Ak (Am rfl (Om rfl ?_)); refine O1 rfl .free rfl ?_; refine Ol rfl rfl ?_; intro b54; refine Es (B := B) (xs := xs) (ys := [.string (str x0.u.atom), .slice x0.o1 x0.u.parts.length x0.k1]) (m := ts.length) (c := cb) Au Ac (by rw [hbv]; rfl) rfl hB (fun _ h => h.u3) Ac (fun a ha => by cases ha; exact Bm Dr Ac) Af Ac Ae Ae Aa Ae .free rfl ?_; intro bh sp ch2 hB2; refine Oa rfl (Ab (Ar (Am rfl ?_))); refine Or rfl rfl rfl ?_; refine Om rfl (Ab ?_)
    refine Dy (E' := [(2, .pointer (some ⟨b2, 0, none⟩)), (3, .pointer (some ⟨b3, 0, none⟩)), (4, .pointer (some ⟨b4, 0, none⟩)), (5, .pointer (some ⟨b5, 0, none⟩)), (6, .bool false), (7, Bn (ts ++ [t0]).length ch2 (some (bh, sp))), (27, .slice ok (C3 e.tree).length ck), (28, .int .i64 ((C3 e.tree).length : Nat)), (29, .int .i64 ((ts ++ [t0]).length : Nat))]) ⟨rfl, rfl, rfl, rfl, rfl, (by simp [Bn]; rfl), rfl, rfl, (by simp; rfl), trivial⟩ (Cs (fun w h => Mem.sub (L' := (bh, _) :: (b5, _) :: (b4, _) :: (b3, _) :: (b2, _) :: L) Bf h) (ih ⟨x0.J, ts ++ [t0], xs ++ [.string (str x0.u.atom), .slice x0.o1 x0.u.parts.length x0.k1], some (bh, sp), ch2⟩ ⟨ez.trans ex, by simp; omega, ?_, by simpa using hB2, hst.add hz0, by simpa using hrun⟩ Cm))
    have h9 : RepL x0.J [t0.tree] [.string (str x0.u.atom), .slice x0.o1 x0.u.parts.length x0.k1] := by rw [← hu0]; exact .one hru
    simpa using (hl.mono ex).append h9
   ·intro hkk
    skip
    refine Dt 0 [17] rfl (Cd rfl) ?_; refine Dt 1 [17] rfl (Cd rfl) ?_; refine Da 2 rfl (Ag rfl) ?_; refine Da 3 rfl (Ag rfl) ?_; refine Da 5 rfl (Aj rfl) ?_; refine Dt 6 [17] rfl (Bc rfl) ?_; refine Da 7 rfl (Ag rfl) ?_
    first | refine Da 8 rfl (A3 rfl rfl _ rfl) ?_ | refine Da 8 rfl (A4 rfl rfl _ rfl) ?_
    refine Dt 9 [17] rfl (B7 rfl) ?_; refine Iz 4 15 16 Ad ?_ ?_ ?_
    ·skip
     refine G0 4 rfl rfl rfl .free rfl (I1 he hf.rep hok _ hkm ((hh _).sub Bk) (fun x a b h h3 => ⟨by
      cases ts with
      | nil => subst h; exact absurd (show (2 : Nat) = 3 from h3) Ae
      | cons t0 ts => simp, h0s⟩) hfn (by unfold Ba; omega)) ?_
     rintro _ J1 _ e2 ⟨oe, ke, of, kf, rfl, he1, rfl⟩; refine Hx ?_; refine Iz 10 15 16 Ad ?_ ?_ ?_
     ·skip
      refine G0 10 rfl rfl rfl .free rfl (ihn Aa he1 (Jz ((hf.mono e2).rp _ hkt) hspt) hs3 Ch _) ?_; rintro _ J2 _ e3 ⟨u, cs, w', ds, ok', rfl, hru, hrw, rfl, hm⟩; obtain ⟨o1, k1, _, rfl, -⟩ := hru.open; obtain ⟨o2, k2, _, rfl, -⟩ := hrw.open
      have hle1 := e2.trans e3
      refine Hx ?_; refine Da 11 rfl (Ag rfl) ?_; refine Da 12 rfl (Cj rfl rfl) ?_; refine Da 13 rfl (Cj rfl rfl) ?_; refine Da 14 rfl (Cj rfl rfl) ?_; refine El 15 16 Ad ?_ ?_
      ·skip
       refine H3 15 rfl rfl .free rfl (.inr Ap) ?_; intro b10; refine No 16 rfl Ad rfl .free rfl (.inr Ap) ?_; intro b11; refine Dx 17 rfl rfl rfl rfl ?_; refine Dx 18 rfl rfl rfl rfl ?_; refine Db 19 rfl (A5 rfl) ?_; refine At Ad ?_
       exact Dy (E' := [(2, _), (3, _), (4, _), (5, _), (6, _), (7, _), (10, _), (11, _), (12, _), (27, _), (28, _), (29, _)]) ⟨rfl, rfl, rfl, rfl, rfl, rfl, rfl, rfl, rfl, rfl, rfl, rfl, trivial⟩ (Cs Gj (hkk ⟨J2, b10, b11, u, w', o1, k1, o2, k2, ok'⟩ ⟨hle1, hru, hrw, hm⟩))
      ·skip
       refine H3 16 rfl rfl .free rfl (.inr Ap) ?_; intro b11; refine No 15 rfl Ad rfl .free rfl (.inr Ap) ?_; intro b10; refine Dx 17 rfl rfl rfl rfl ?_; refine Dx 18 rfl rfl rfl rfl ?_; refine Db 19 rfl (A5 rfl) ?_; refine At Ad ?_
       exact Dy (E' := [(2, _), (3, _), (4, _), (5, _), (6, _), (7, _), (10, _), (11, _), (12, _), (27, _), (28, _), (29, _)]) ⟨rfl, rfl, rfl, rfl, rfl, rfl, rfl, rfl, rfl, rfl, rfl, rfl, trivial⟩ (Cs Gj (hkk ⟨J2, b10, b11, u, w', o1, k1, o2, k2, ok'⟩ ⟨hle1, hru, hrw, hm⟩))
     ·skip
      refine H3 15 rfl rfl .free rfl (.inr Ap) ?_; intro b10; refine El 10 16 Ad ?_ ?_
      ·skip
       refine G0 10 rfl rfl rfl .free rfl (ihn Aa he1 (Jz ((hf.mono e2).rp _ hkt) hspt) hs3 Ch _) ?_; rintro _ J2 _ e3 ⟨u, cs, w', ds, ok', rfl, hru, hrw, rfl, hm⟩; obtain ⟨o1, k1, _, rfl, -⟩ := hru.open; obtain ⟨o2, k2, _, rfl, -⟩ := hrw.open
       have hle1 := e2.trans e3
       refine Hx ?_; refine Da 11 rfl (Ag rfl) ?_; refine Da 12 rfl (Cj rfl rfl) ?_; refine Da 13 rfl (Cj rfl rfl) ?_; refine Da 14 rfl (Cj rfl rfl) ?_; refine No 16 rfl Ad rfl .free rfl (.inr Ap) ?_; intro b11; refine Dx 17 rfl rfl rfl rfl ?_; refine Dx 18 rfl rfl rfl rfl ?_; refine Db 19 rfl (A5 rfl) ?_; refine At Ad ?_
       exact Dy (E' := [(2, _), (3, _), (4, _), (5, _), (6, _), (7, _), (10, _), (11, _), (12, _), (27, _), (28, _), (29, _)]) ⟨rfl, rfl, rfl, rfl, rfl, rfl, rfl, rfl, rfl, rfl, rfl, rfl, trivial⟩ (Cs Gj (hkk ⟨J2, b10, b11, u, w', o1, k1, o2, k2, ok'⟩ ⟨hle1, hru, hrw, hm⟩))
      ·skip
       refine H3 16 rfl rfl .free rfl (.inr Ap) ?_; intro b11; refine Dc 10 rfl rfl (ihn Aa he1 (Jz ((hf.mono e2).rp _ hkt) hspt) hs3 Ch _) ?_; rintro _ J2 _ e3 ⟨u, cs, w', ds, ok', rfl, hru, hrw, rfl, hm⟩; obtain ⟨o1, k1, _, rfl, -⟩ := hru.open; obtain ⟨o2, k2, _, rfl, -⟩ := hrw.open
       have hle1 := e2.trans e3
       refine Hx ?_; refine Da 11 rfl (Ag rfl) ?_; refine Da 12 rfl (Cj rfl rfl) ?_; refine Da 13 rfl (Cj rfl rfl) ?_; refine Da 14 rfl (Cj rfl rfl) ?_; refine Dx 17 rfl rfl rfl rfl ?_; refine Dx 18 rfl rfl rfl rfl ?_; refine Db 19 rfl (A5 rfl) ?_; refine At Ad ?_
       exact Dy (E' := [(2, _), (3, _), (4, _), (5, _), (6, _), (7, _), (10, _), (11, _), (12, _), (27, _), (28, _), (29, _)]) ⟨rfl, rfl, rfl, rfl, rfl, rfl, rfl, rfl, rfl, rfl, rfl, rfl, trivial⟩ (Cs Gj (hkk ⟨J2, b10, b11, u, w', o1, k1, o2, k2, ok'⟩ ⟨hle1, hru, hrw, hm⟩))
     ·skip
      refine H3 16 rfl rfl .free rfl (.inr Ap) ?_; intro b11; refine El 10 15 Ad ?_ ?_
      ·skip
       refine G0 10 rfl rfl rfl .free rfl (ihn Aa he1 (Jz ((hf.mono e2).rp _ hkt) hspt) hs3 Ch _) ?_; rintro _ J2 _ e3 ⟨u, cs, w', ds, ok', rfl, hru, hrw, rfl, hm⟩; obtain ⟨o1, k1, _, rfl, -⟩ := hru.open; obtain ⟨o2, k2, _, rfl, -⟩ := hrw.open
       have hle1 := e2.trans e3
       refine Hx ?_; refine Da 11 rfl (Ag rfl) ?_; refine Da 12 rfl (Cj rfl rfl) ?_; refine Da 13 rfl (Cj rfl rfl) ?_; refine Da 14 rfl (Cj rfl rfl) ?_; refine No 15 rfl Ad rfl .free rfl (.inr Ap) ?_; intro b10; refine Dx 17 rfl rfl rfl rfl ?_; refine Dx 18 rfl rfl rfl rfl ?_; refine Db 19 rfl (A5 rfl) ?_; refine At Ad ?_
       exact Dy (E' := [(2, _), (3, _), (4, _), (5, _), (6, _), (7, _), (10, _), (11, _), (12, _), (27, _), (28, _), (29, _)]) ⟨rfl, rfl, rfl, rfl, rfl, rfl, rfl, rfl, rfl, rfl, rfl, rfl, trivial⟩ (Cs Gj (hkk ⟨J2, b10, b11, u, w', o1, k1, o2, k2, ok'⟩ ⟨hle1, hru, hrw, hm⟩))
      ·skip
       refine H3 15 rfl rfl .free rfl (.inr Ap) ?_; intro b10; refine Dc 10 rfl rfl (ihn Aa he1 (Jz ((hf.mono e2).rp _ hkt) hspt) hs3 Ch _) ?_; rintro _ J2 _ e3 ⟨u, cs, w', ds, ok', rfl, hru, hrw, rfl, hm⟩; obtain ⟨o1, k1, _, rfl, -⟩ := hru.open; obtain ⟨o2, k2, _, rfl, -⟩ := hrw.open
       have hle1 := e2.trans e3
       refine Hx ?_; refine Da 11 rfl (Ag rfl) ?_; refine Da 12 rfl (Cj rfl rfl) ?_; refine Da 13 rfl (Cj rfl rfl) ?_; refine Da 14 rfl (Cj rfl rfl) ?_; refine Dx 17 rfl rfl rfl rfl ?_; refine Dx 18 rfl rfl rfl rfl ?_; refine Db 19 rfl (A5 rfl) ?_; refine At Ad ?_
       exact Dy (E' := [(2, _), (3, _), (4, _), (5, _), (6, _), (7, _), (10, _), (11, _), (12, _), (27, _), (28, _), (29, _)]) ⟨rfl, rfl, rfl, rfl, rfl, rfl, rfl, rfl, rfl, rfl, rfl, rfl, trivial⟩ (Cs Gj (hkk ⟨J2, b10, b11, u, w', o1, k1, o2, k2, ok'⟩ ⟨hle1, hru, hrw, hm⟩))
    ·skip
     refine H3 15 rfl rfl .free rfl (.inr Ap) ?_; intro b10; refine El 4 16 Ad ?_ ?_
     ·skip
      refine G0 4 rfl rfl rfl .free rfl (I1 he hf.rep hok _ hkm ((hh _).sub Bk) (fun x a b h h3 => ⟨by
       cases ts with
       | nil => subst h; exact absurd (show (2 : Nat) = 3 from h3) Ae
       | cons t0 ts => simp, h0s⟩) hfn (by unfold Ba; omega)) ?_
      rintro _ J1 _ e2 ⟨oe, ke, of, kf, rfl, he1, rfl⟩; refine Hx ?_; refine El 10 16 Ad ?_ ?_
      ·skip
       refine G0 10 rfl rfl rfl .free rfl (ihn Aa he1 (Jz ((hf.mono e2).rp _ hkt) hspt) hs3 Ch _) ?_; rintro _ J2 _ e3 ⟨u, cs, w', ds, ok', rfl, hru, hrw, rfl, hm⟩; obtain ⟨o1, k1, _, rfl, -⟩ := hru.open; obtain ⟨o2, k2, _, rfl, -⟩ := hrw.open
       have hle1 := e2.trans e3
       refine Hx ?_; refine Da 11 rfl (Ag rfl) ?_; refine Da 12 rfl (Cj rfl rfl) ?_; refine Da 13 rfl (Cj rfl rfl) ?_; refine Da 14 rfl (Cj rfl rfl) ?_; refine No 16 rfl Ad rfl .free rfl (.inr Ap) ?_; intro b11; refine Dx 17 rfl rfl rfl rfl ?_; refine Dx 18 rfl rfl rfl rfl ?_; refine Db 19 rfl (A5 rfl) ?_; refine At Ad ?_
       exact Dy (E' := [(2, _), (3, _), (4, _), (5, _), (6, _), (7, _), (10, _), (11, _), (12, _), (27, _), (28, _), (29, _)]) ⟨rfl, rfl, rfl, rfl, rfl, rfl, rfl, rfl, rfl, rfl, rfl, rfl, trivial⟩ (Cs Gj (hkk ⟨J2, b10, b11, u, w', o1, k1, o2, k2, ok'⟩ ⟨hle1, hru, hrw, hm⟩))
      ·skip
       refine H3 16 rfl rfl .free rfl (.inr Ap) ?_; intro b11; refine Dc 10 rfl rfl (ihn Aa he1 (Jz ((hf.mono e2).rp _ hkt) hspt) hs3 Ch _) ?_; rintro _ J2 _ e3 ⟨u, cs, w', ds, ok', rfl, hru, hrw, rfl, hm⟩; obtain ⟨o1, k1, _, rfl, -⟩ := hru.open; obtain ⟨o2, k2, _, rfl, -⟩ := hrw.open
       have hle1 := e2.trans e3
       refine Hx ?_; refine Da 11 rfl (Ag rfl) ?_; refine Da 12 rfl (Cj rfl rfl) ?_; refine Da 13 rfl (Cj rfl rfl) ?_; refine Da 14 rfl (Cj rfl rfl) ?_; refine Dx 17 rfl rfl rfl rfl ?_; refine Dx 18 rfl rfl rfl rfl ?_; refine Db 19 rfl (A5 rfl) ?_; refine At Ad ?_
       exact Dy (E' := [(2, _), (3, _), (4, _), (5, _), (6, _), (7, _), (10, _), (11, _), (12, _), (27, _), (28, _), (29, _)]) ⟨rfl, rfl, rfl, rfl, rfl, rfl, rfl, rfl, rfl, rfl, rfl, rfl, trivial⟩ (Cs Gj (hkk ⟨J2, b10, b11, u, w', o1, k1, o2, k2, ok'⟩ ⟨hle1, hru, hrw, hm⟩))
     ·skip
      refine H3 16 rfl rfl .free rfl (.inr Ap) ?_; intro b11
      refine Gx 4 rfl (by kernel_rfl) rfl rfl .free rfl (I1 he hf.rep hok _ hkm ((hh _).sub Bk) (fun x a b h h3 => ⟨by
       cases ts with
       | nil => subst h; exact absurd (show (2 : Nat) = 3 from h3) Ae
       | cons t0 ts => simp, h0s⟩) hfn (by unfold Ba; omega)) ?_
      rintro _ J1 _ e2 ⟨oe, ke, of, kf, rfl, he1, rfl⟩; refine Hx ?_; refine Dc 10 rfl rfl (ihn Aa he1 (Jz ((hf.mono e2).rp _ hkt) hspt) hs3 Ch _) ?_; rintro _ J2 _ e3 ⟨u, cs, w', ds, ok', rfl, hru, hrw, rfl, hm⟩; obtain ⟨o1, k1, _, rfl, -⟩ := hru.open; obtain ⟨o2, k2, _, rfl, -⟩ := hrw.open
      have hle1 := e2.trans e3
      refine Hx ?_; refine Da 11 rfl (Ag rfl) ?_; refine Da 12 rfl (Cj rfl rfl) ?_; refine Da 13 rfl (Cj rfl rfl) ?_; refine Da 14 rfl (Cj rfl rfl) ?_; refine Dx 17 rfl rfl rfl rfl ?_; refine Dx 18 rfl rfl rfl rfl ?_; refine Db 19 rfl (A5 rfl) ?_; refine At Ad ?_
      exact Dy (E' := [(2, _), (3, _), (4, _), (5, _), (6, _), (7, _), (10, _), (11, _), (12, _), (27, _), (28, _), (29, _)]) ⟨rfl, rfl, rfl, rfl, rfl, rfl, rfl, rfl, rfl, rfl, rfl, rfl, trivial⟩ (Cs Gj (hkk ⟨J2, b10, b11, u, w', o1, k1, o2, k2, ok'⟩ ⟨hle1, hru, hrw, hm⟩))
    ·skip
     refine H3 16 rfl rfl .free rfl (.inr Ap) ?_; intro b11; refine El 4 15 Ad ?_ ?_
     ·skip
      refine G0 4 rfl rfl rfl .free rfl (I1 he hf.rep hok _ hkm ((hh _).sub Bk) (fun x a b h h3 => ⟨by
       cases ts with
       | nil => subst h; exact absurd (show (2 : Nat) = 3 from h3) Ae
       | cons t0 ts => simp, h0s⟩) hfn (by unfold Ba; omega)) ?_
      rintro _ J1 _ e2 ⟨oe, ke, of, kf, rfl, he1, rfl⟩; refine Hx ?_; refine El 10 15 Ad ?_ ?_
      ·skip
       refine G0 10 rfl rfl rfl .free rfl (ihn Aa he1 (Jz ((hf.mono e2).rp _ hkt) hspt) hs3 Ch _) ?_; rintro _ J2 _ e3 ⟨u, cs, w', ds, ok', rfl, hru, hrw, rfl, hm⟩; obtain ⟨o1, k1, _, rfl, -⟩ := hru.open; obtain ⟨o2, k2, _, rfl, -⟩ := hrw.open
       have hle1 := e2.trans e3
       refine Hx ?_; refine Da 11 rfl (Ag rfl) ?_; refine Da 12 rfl (Cj rfl rfl) ?_; refine Da 13 rfl (Cj rfl rfl) ?_; refine Da 14 rfl (Cj rfl rfl) ?_; refine No 15 rfl Ad rfl .free rfl (.inr Ap) ?_; intro b10; refine Dx 17 rfl rfl rfl rfl ?_; refine Dx 18 rfl rfl rfl rfl ?_; refine Db 19 rfl (A5 rfl) ?_; refine At Ad ?_
       exact Dy (E' := [(2, _), (3, _), (4, _), (5, _), (6, _), (7, _), (10, _), (11, _), (12, _), (27, _), (28, _), (29, _)]) ⟨rfl, rfl, rfl, rfl, rfl, rfl, rfl, rfl, rfl, rfl, rfl, rfl, trivial⟩ (Cs Gj (hkk ⟨J2, b10, b11, u, w', o1, k1, o2, k2, ok'⟩ ⟨hle1, hru, hrw, hm⟩))
      ·skip
       refine H3 15 rfl rfl .free rfl (.inr Ap) ?_; intro b10; refine Dc 10 rfl rfl (ihn Aa he1 (Jz ((hf.mono e2).rp _ hkt) hspt) hs3 Ch _) ?_; rintro _ J2 _ e3 ⟨u, cs, w', ds, ok', rfl, hru, hrw, rfl, hm⟩; obtain ⟨o1, k1, _, rfl, -⟩ := hru.open; obtain ⟨o2, k2, _, rfl, -⟩ := hrw.open
       have hle1 := e2.trans e3
       refine Hx ?_; refine Da 11 rfl (Ag rfl) ?_; refine Da 12 rfl (Cj rfl rfl) ?_; refine Da 13 rfl (Cj rfl rfl) ?_; refine Da 14 rfl (Cj rfl rfl) ?_; refine Dx 17 rfl rfl rfl rfl ?_; refine Dx 18 rfl rfl rfl rfl ?_; refine Db 19 rfl (A5 rfl) ?_; refine At Ad ?_
       exact Dy (E' := [(2, _), (3, _), (4, _), (5, _), (6, _), (7, _), (10, _), (11, _), (12, _), (27, _), (28, _), (29, _)]) ⟨rfl, rfl, rfl, rfl, rfl, rfl, rfl, rfl, rfl, rfl, rfl, rfl, trivial⟩ (Cs Gj (hkk ⟨J2, b10, b11, u, w', o1, k1, o2, k2, ok'⟩ ⟨hle1, hru, hrw, hm⟩))
     ·skip
      refine H3 15 rfl rfl .free rfl (.inr Ap) ?_; intro b10
      refine Gx 4 rfl (by kernel_rfl) rfl rfl .free rfl (I1 he hf.rep hok _ hkm ((hh _).sub Bk) (fun x a b h h3 => ⟨by
       cases ts with
       | nil => subst h; exact absurd (show (2 : Nat) = 3 from h3) Ae
       | cons t0 ts => simp, h0s⟩) hfn (by unfold Ba; omega)) ?_
      rintro _ J1 _ e2 ⟨oe, ke, of, kf, rfl, he1, rfl⟩; refine Hx ?_; refine Dc 10 rfl rfl (ihn Aa he1 (Jz ((hf.mono e2).rp _ hkt) hspt) hs3 Ch _) ?_; rintro _ J2 _ e3 ⟨u, cs, w', ds, ok', rfl, hru, hrw, rfl, hm⟩; obtain ⟨o1, k1, _, rfl, -⟩ := hru.open; obtain ⟨o2, k2, _, rfl, -⟩ := hrw.open
      have hle1 := e2.trans e3
      refine Hx ?_; refine Da 11 rfl (Ag rfl) ?_; refine Da 12 rfl (Cj rfl rfl) ?_; refine Da 13 rfl (Cj rfl rfl) ?_; refine Da 14 rfl (Cj rfl rfl) ?_; refine Dx 17 rfl rfl rfl rfl ?_; refine Dx 18 rfl rfl rfl rfl ?_; refine Db 19 rfl (A5 rfl) ?_; refine At Ad ?_
      exact Dy (E' := [(2, _), (3, _), (4, _), (5, _), (6, _), (7, _), (10, _), (11, _), (12, _), (27, _), (28, _), (29, _)]) ⟨rfl, rfl, rfl, rfl, rfl, rfl, rfl, rfl, rfl, rfl, rfl, rfl, trivial⟩ (Cs Gj (hkk ⟨J2, b10, b11, u, w', o1, k1, o2, k2, ok'⟩ ⟨hle1, hru, hrw, hm⟩))
  intro c1
  try simp only [nb] at c1
  rw [Ae0 Aa] at hrun; rw [hrun] at hchk
  simp only at hchk
  refine Ce rfl ?_; refine Se rfl ?_; refine A2 rfl .free rfl ?_; refine A2 rfl .free rfl ?_; refine Om rfl ?_; refine Ca rfl (Vp he hf.rep hok ((hh _).sub Bk) Aa hfn) ?_; rintro _ J9 _ e9 ⟨u, cs, ok9, rfl, hru9, rfl, hm9⟩; obtain ⟨o9, k9, _, rfl, -⟩ := hru9.open
  have hf := hf.mono e9
  have hle := hle.trans e9
  have hsz : ok9 = true → u.size ≤ Ba := by
   intro h9
   cases hr : e.raw ts l m with
   | none => rw [hr] at hm9; rw [h9] at hm9; cases hm9
   | some t9 =>
    rw [hr] at hm9
    have := Abf hst hsm hfn hr
    rw [hm9.2, Ty.tree_size]; unfold Ba; omega
  refine Om rfl (Oe rfl rfl (Oe rfl rfl ?_)); refine Aw .free rfl ?_; intro b13; refine Bu rfl rfl rfl rfl .free ?_; refine Oa rfl (Ab (Ah ?_)); refine Cs (L' := (b13, _) :: (b5, _) :: (b4, _) :: (b3, _) :: (b2, _) :: L) (fun w h => Mem.sub (.cons_cons _ (List.sublist_append_right _ _)) h) ?_; refine Dn 10 rfl rfl ?_; refine Dt 0 [7] rfl (Cd rfl) ?_; refine Da 2 rfl (Ag rfl) ?_; refine Da 3 rfl (Ag rfl) ?_
  first | refine Ae9 (t := 67) rfl ?_ ?_ | refine Af8 (t := 67) rfl ?_ ?_
  ·intro g13_4; refine Ef 4 [5, 7] rfl Ad rfl Ap (Cd rfl) (.met rfl rfl) rfl ?_; refine El 1 5 Ad ?_ ?_
   ·skip
    refine Lw 1 rfl rfl (Cd rfl) .free rfl (.inr Ap) ?_; refine Gx 5 rfl Ad rfl rfl (.met rfl rfl) rfl (H1 hru9 (hsz g13_4) _) ?_; rintro _ _ _ _ ⟨rfl, rfl, rfl⟩; refine Hx ?_; refine Da 6 rfl (Dj rfl rfl) ?_; refine Dx 7 rfl rfl rfl rfl ?_; refine Dx 8 rfl rfl rfl rfl ?_; refine Db 9 rfl (A5 rfl) ?_; refine At Ad ?_; refine Al (.c rfl (.c rfl (.tmp rfl .nil))) ?_
    exact ⟨J9, L, hle, Bk, u, _, _, _, _, rfl, hru9, hf.rep, rfl, by rw [hchk]; have := Tl (e := e) hm9; simpa [g13_4] using this⟩
   ·skip
    refine G0 5 rfl rfl rfl (.met rfl rfl) rfl (H1 hru9 (hsz g13_4) _) ?_; rintro _ _ _ _ ⟨rfl, rfl, rfl⟩; refine Hx ?_; refine Da 6 rfl (Dj rfl rfl) ?_; refine El 1 7 Ad ?_ ?_
    ·skip
     refine Lw 1 rfl rfl (Cd rfl) .free rfl (.inr Ap) ?_; refine Dx 7 rfl rfl rfl rfl ?_; refine Dx 8 rfl rfl rfl rfl ?_; refine Db 9 rfl (A5 rfl) ?_; refine At Ad ?_; refine Al (.c rfl (.c rfl (.tmp rfl .nil))) ?_
     exact ⟨J9, L, hle, Bk, u, _, _, _, _, rfl, hru9, hf.rep, rfl, by rw [hchk]; have := Tl (e := e) hm9; simpa [g13_4] using this⟩
    ·skip
     refine Oy 7 rfl rfl rfl rfl rfl rfl .free (.inl Ad) ?_; refine M2 1 rfl Ad rfl (Cd rfl) .free rfl (.inl Ad) ?_; refine Dx 8 rfl rfl rfl rfl ?_; refine Db 9 rfl (A5 rfl) ?_; refine At Ad ?_; refine Al (.c rfl (.c rfl (.tmp rfl .nil))) ?_
     exact ⟨J9, L, hle, Bk, u, _, _, _, _, rfl, hru9, hf.rep, rfl, by rw [hchk]; have := Tl (e := e) hm9; simpa [g13_4] using this⟩
  intro g13_4; refine Ds 4 rfl rfl rfl ?_; refine Ds 5 rfl rfl rfl ?_; refine Da 6 rfl (Cu rfl rfl) ?_; refine El 1 7 Ad ?_ ?_
  ·skip
   refine Lw 1 rfl rfl (Cd rfl) .free rfl (.inr Ap) ?_; refine Dx 7 rfl rfl rfl rfl ?_; refine Dx 8 rfl rfl rfl rfl ?_; refine Db 9 rfl (A5 rfl) ?_; refine At Ad ?_; refine Al (.c rfl (.c rfl (.tmp rfl .nil))) ?_
   exact ⟨J9, L, hle, Bk, u, _, _, _, _, rfl, hru9, hf.rep, rfl, by rw [hchk]; have := Tl (e := e) hm9; simpa [g13_4] using this⟩
  ·skip
   refine Oy 7 rfl rfl rfl rfl rfl rfl .free (.inl Ad) ?_; refine M2 1 rfl Ad rfl (Cd rfl) .free rfl (.inl Ad) ?_; refine Dx 8 rfl rfl rfl rfl ?_; refine Db 9 rfl (A5 rfl) ?_; refine At Ad ?_; refine Al (.c rfl (.c rfl (.tmp rfl .nil))) ?_
   exact ⟨J9, L, hle, Bk, u, _, _, _, _, rfl, hru9, hf.rep, rfl, by rw [hchk]; have := Tl (e := e) hm9; simpa [g13_4] using this⟩
def Hw (sg s : As) : Option (Ty × Ty) := match Mp s with
 | some (.fn a b) => if sg = [62] then some (a, b) else none
 | some (.pr a b) => if sg = [42] then some (a, b) else none
 | _ => none
def t1 (o : Option (Ty × Ty)) : As := (o.map fun p => p.1.tree.text).getD []
def t2 (o : Option (Ty × Ty)) : As := (o.map fun p => p.2.tree.text).getD []
theorem To {sg s : As} (h : Mp s = none) : Hw sg s = none := by unfold Hw; rw [h]
theorem Tp {sg s : As} {a : Ty} (h : Mp s = some a) : (a.tree.atom = [] ∧ a.tree.head = sg → ∃ x y, Hw sg s = some (x, y) ∧ a.tree.parts.length = 3 ∧ a.tree.pt 1 = x.tree ∧ a.tree.pt 2 = y.tree) ∧ (¬ (a.tree.atom = [] ∧ a.tree.head = sg) → Hw sg s = none) := by
 unfold Hw
 rw [h]
 cases a with
 | i => exact ⟨fun h => absurd h.1 Ae, fun _ => rfl⟩
 | fn x y =>
  refine ⟨fun h => ⟨x, y, if_pos (show sg = [62] from h.2.symm), rfl, rfl, rfl⟩, fun h => if_neg fun e => h ⟨rfl, e.symm⟩⟩
 | pr x y =>
  refine ⟨fun h => ⟨x, y, if_pos (show sg = [42] from h.2.symm), rfl, rfl, rfl⟩, fun h => if_neg fun e => h ⟨rfl, e.symm⟩⟩
def Agg (f : Bool) (a b : Ty) : Ty := if f then .fn a b else .pr a b
def Ag7 (f : Bool) (a b : As) : Option As := match Mp a, Mp b with
 | some x, some y => if (Agg f x y).size ≤ 16 then some (Agg f x y).tree.text else none
 | _, _ => none
def sgn (f : Bool) : As := if f then [62] else [42]
def Ahg (h k0 k1 k2 : As) : As :=
 if h = Gi ∧ k0 = [105] ∧ k1 = k2 then k1
 else if h = E3 ∧ (Hw [62] k0).isSome = true ∧ t1 (Hw [62] k0) = k1 then t2 (Hw [62] k0)
 else if h = Ey then (Ag7 false k0 k1).getD []
 else if h = G3 ∧ (Hw [42] k0).isSome = true then t1 (Hw [42] k0)
 else if h = G4 ∧ (Hw [42] k0).isSome = true then t2 (Hw [42] k0)
 else if (h = [43] ∨ h = [45] ∨ h = [42]) ∧ k0 = [105] ∧ k1 = [105] then [105]
 else []
def Ahd (h : As) (n : Nat) : Prop := (∃ o : B5, h = o.txt ∧ n = 2) ∨ (h = Gi ∧ n = 3) ∨ (∃ o : U2, h = o.txt ∧ n = 1)
abbrev tx (m : List Ty) : List As := m.map fun t => t.tree.text
def ST (s : As) (L : Bo) : De := fun v I' L' => v = .string (str s) ∧ L = L'
def TW (o : Option (Ty × Ty)) (L : Bo) : De := fun v I' L' => v = .tuple #[.string (str (t1 o)), .string (str (t2 o)), .bool o.isSome] ∧ L = L'
theorem U6 {s : As} {t : Tree} {ok : Bool} (hpf : match Dw s with | some t0 => ok = true ∧ t = t0 | none => ok = false) : (ok = true → t.typed = true → ∃ a, Mp s = some a ∧ t = a.tree ∧ a.size ≤ 16) ∧ (ok = false ∨ t.typed = false → Mp s = none) := by
 have e : F0 s = bif ok && t.typed then some t else none := by
  unfold F0
  cases hp : Dw s with
  | none => rw [hp] at hpf; simp [hpf]
  | some t0 => rw [hp] at hpf; obtain ⟨rfl, rfl⟩ := hpf; simp only [Bool.true_and]
 constructor
 ·intro h1 h2; rw [h1, h2] at e; obtain ⟨a, h3, h4, h5, _⟩ := Wj e
  exact ⟨a, h3, h4, h5⟩
 ·intro h
  have : F0 s = none := by rw [e]; rcases h with h | h <;> simp [h]
  unfold Mp; rw [this]; rfl
theorem Zw (s sg : As) (hs : s.length ≤ Ba) (I : Heap) (L : Bo) : Fun Tryz.prog 207 [.string (str s), .string (str sg)] I L (TW (Hw sg s) L) := by
 refine Ao Af ?_; refine Se rfl ?_
 iterate 3 refine Oa rfl ?_
 refine Ab (Se rfl (Om rfl ?_)); refine Ca rfl (Un s hs _ _) ?_; rintro _ J _ e1 ⟨t, cs, ok, rfl, hrep, rfl, hpf⟩; obtain ⟨oa, c, oaf, cf, rfl, hf⟩ := hrep.at'
 have hty := U6 hpf
 have hn := hf.nil
 refine Om rfl (Oe rfl rfl (Oe rfl rfl ?_)); refine Aw .free rfl ?_; intro b7; refine Bu rfl rfl rfl rfl .free ?_; refine Oa rfl (Ab (Ah (Se rfl (Om rfl ?_)))); refine Ec rfl .free rfl ?_; refine Om rfl ?_
 apply G5 16 20 rfl
 ·intro g2_3 hk
  try simp only [nb] at g2_3
  have hp := Gg (Iy hpf g2_3)
  refine A2 rfl (.met rfl rfl) rfl ?_; refine Cq rfl (.met rfl rfl) rfl (Nr hf.rep hp.1 (Tree.size_maxN hp.2.1) _) ?_; rintro _ _ _ _ ⟨rfl, rfl, rfl⟩; refine Ec rfl (.met rfl rfl) rfl ?_; refine Of rfl rfl ?_
  exact A7 3 rfl rfl hk
 ·intro _ hk; refine Bj 3 rfl ?_; refine Ot rfl rfl ?_
  exact A7 3 rfl rfl hk
 refine Om rfl ?_
 apply G5 21 25 rfl
 ·intro g2_8 hk
  try simp only [nb] at g2_8
  refine Cf rfl (.met rfl rfl) rfl ?_; refine Bz rfl (.met rfl rfl) rfl ?_; refine Gf rfl rfl rfl (.met rfl rfl) rfl ?_; refine Of rfl rfl ?_
  exact A7 3 rfl rfl hk
 ·intro _ hk; refine Bj 3 rfl ?_; refine Ot rfl rfl ?_
  exact A7 3 rfl rfl hk
 refine Om rfl ?_
 apply G5 26 34 rfl
 ·intro g2_13 hk
  try simp only [nb] at g2_13
  have hp := Gg (Iy hpf g2_13.1.1)
  have hne := (L5 hp.1 (by simpa using g2_13.2)).2
  refine Cf rfl (.met rfl rfl) rfl ?_; refine Bz rfl (.met rfl rfl) rfl ?_
  first | refine Bx rfl rfl 0 rfl (.met rfl rfl) rfl ?_ | refine By rfl rfl 0 rfl (.met rfl rfl) rfl ?_
  refine Bg rfl (.met rfl rfl) rfl ?_; refine Gb rfl (.met rfl rfl) rfl ?_; refine Ow rfl ?_; refine Gf rfl rfl rfl (.met rfl rfl) rfl ?_; refine Of rfl rfl ?_
  exact A7 7 rfl rfl hk
 ·intro _ hk; refine Bj 7 rfl ?_; refine Ot rfl rfl ?_
  exact A7 7 rfl rfl hk
 refine Ab ?_; refine A0 rfl ?_ ?_
 ·intro c0
  try simp only [nb] at c0
  refine Se rfl ?_
  iterate 3 refine Oa rfl ?_
  refine Ab ?_; refine Al (.tmp rfl (.tmp rfl (.tmp rfl .nil))) ?_; refine ⟨J, L, e1, Bk, ?_, rfl⟩
  have hz : Hw sg s = none := by
   by_cases h1 : ok = true
   ·by_cases h2 : t.typed = true
    ·obtain ⟨a, h3, rfl, h4⟩ := hty.1 h1 h2; refine (Tp h3).2 ?_; rintro ⟨h5, h6⟩
     rcases c0 with ((h | h) | h) | h
     ·rw [h1] at h; cases h
     ·rw [h2] at h; cases h
     ·exact h h5
     ·have hp := Gg (Iy hpf h1)
      exact h ((I4 (L5 hp.1 h5).2).symm.trans h6)
    ·exact To (hty.2 (.inr (by simpa using h2)))
   ·exact To (hty.2 (.inl (by simpa using h1)))
  rw [hz]; rfl
 intro c0
 try simp only [nb] at c0
 obtain ⟨⟨⟨h1, h2⟩, h3⟩, h4⟩ := c0
 have hp := Gg (Iy hpf h1)
 have hne := (L5 hp.1 (by simpa using h3)).2
 obtain ⟨a, h5, rfl, h6⟩ := hty.1 h1 h2; obtain ⟨x, y, h7, h8, h9, h10⟩ := (Tp h5).1 ⟨by simpa using h3, (I4 hne).trans (by simpa using h4)⟩
 have hx := Tree.pt_good hp.1 1 Aa
 have hy := Tree.pt_good hp.1 2 Aa
 have hl1 := a.tree.pt_len 1 Aa
 have hl2 := a.tree.pt_len 2 Aa
 refine Ak (Ah ?_); refine Dn 13 rfl rfl ?_; refine Da 0 rfl (Aj rfl) ?_; refine Dt 1 [13] rfl (Bc rfl) ?_
 first | refine Da 2 rfl (A3 rfl rfl 1 rfl) ?_ | refine Da 2 rfl (A4 rfl rfl 1 rfl) ?_
 refine Dt 3 [13] rfl (B7 rfl) ?_; refine Da 5 rfl (Aj rfl) ?_; refine Dt 6 [13] rfl (Bc rfl) ?_
 first | refine Da 7 rfl (A3 rfl rfl 2 rfl) ?_ | refine Da 7 rfl (A4 rfl rfl 2 rfl) ?_
 refine Dt 8 [13] rfl (B7 rfl) ?_; refine Dc 4 rfl rfl (Kq _ (Nat.lt_succ_self _) (hf.rp 1 Aa) hx Aa _) ?_; rintro _ _ _ _ ⟨rfl, rfl, rfl⟩; refine Hx ?_; refine Dc 9 rfl rfl (Kq _ (Nat.lt_succ_self _) (hf.rp 2 Aa) hy Aa _) ?_; rintro _ _ _ _ ⟨rfl, rfl, rfl⟩; refine Hx ?_; refine Da 10 rfl (A5 rfl) ?_; refine Da 11 rfl (A5 rfl) ?_; refine Da 12 rfl (A5 rfl) ?_; refine At Ad ?_; refine Al (.tmp rfl (.tmp rfl (.tmp rfl .nil))) ?_
 exact ⟨J, L, e1, Bk, by rw [h7, h9, h10]; rfl, rfl⟩
theorem Aak (s : As) (hs : s.length ≤ Ba) (I : Heap) (L : Bo) : Fun Tryz.prog 197 [.string (str s)] I L (TW (Hw [62] s) L) := by
 refine Ao Af ?_; refine Se rfl ?_
 iterate 3 refine Oa rfl ?_
 refine Ab (Se rfl (Om rfl ?_)); refine Ca rfl (Zw s [62] hs _ _) ?_; rintro _ J _ e1 ⟨rfl, rfl⟩
 iterate 3 refine Oe rfl rfl ?_
 iterate 3 refine Oa rfl ?_
 refine Ab ?_; refine Al (.tmp rfl (.tmp rfl (.tmp rfl .nil))) ?_
 exact ⟨J, L, e1, Bk, rfl, rfl⟩
theorem Yw (s : As) (hs : s.length ≤ Ba) (I : Heap) (L : Bo) : Fun Tryz.prog 196 [.string (str s)] I L (TW (Hw [42] s) L) := by
 refine Ao Af ?_; refine Se rfl ?_
 iterate 3 refine Oa rfl ?_
 refine Ab (Se rfl (Om rfl ?_)); refine Ca rfl (Zw s [42] hs _ _) ?_; rintro _ J _ e1 ⟨rfl, rfl⟩
 iterate 3 refine Oe rfl rfl ?_
 iterate 3 refine Oa rfl ?_
 refine Ab ?_; refine Al (.tmp rfl (.tmp rfl (.tmp rfl .nil))) ?_
 exact ⟨J, L, e1, Bk, rfl, rfl⟩
theorem RStrs.mono {I I' : Heap} (hle : HLe I I') {L : Bo} {oa : Option Addr} {l : List As} (h : RStrs I L oa l) : RStrs I' L oa l := ⟨fun a ha => O5 hle (h.reads a ha), h.nil, h.len⟩
end Go.Proofs.YtmfagaajiakgoaaGreatDoor
