/- The draws' reader: its picks are within bounds. No conditions. -/
import Derived.Test.YtpfacnejglnjfaaGreatDoorG8
namespace Go.Proofs.YtpfacnejglnjfaaGreatDoor
set_option maxRecDepth 100000
set_option linter.unusedVariables false
set_option linter.unusedSimpArgs false

theorem Bytes.take {I : Heap} {oa : Option Addr} {l : List UInt8} {c : Nat} (h : Bytes I oa l c) (m : Nat) (hm : m ≤ l.length) : Bytes I (if c = 0 then oa else oa.map (·.add (0 * 1))) (l.take m) (c - 0) := by
  have e : (if c = 0 then oa else oa.map (·.add (0 * 1))) = oa := by
    have : ∀ x : Addr, x.add (0 * 1) = x := fun x => by simp [Addr.add]
    cases oa <;> simp [this]
  rw [e]
  refine ⟨fun x hx => ?_, fun hx => by rw [h.nil hx]; simp, by have := h.cap; simp; omega, by have := h.len; simp; omega⟩
  rcases h.still x hx with h0 | ⟨cc, T, fr, hb, hs, hc⟩
  · exact .inl (by have : l = [] := by simpa using h0
                   simp [this])
  · refine .inr ⟨cc, T, fr, hb, hs, fun i hi => ?_⟩
    simp only [List.length_map, List.length_take] at hi
    rw [hc i (by simp; omega)]
    simp

/-- The reader, in the call's own memory. -/
def rd (b : Nat) (oa : Option Addr) (l : List UInt8) (c p : Nat) : Nat × Obj := (b, .cells [.slice oa l.length c, .int .i64 (p : Nat)].toArray 44 (0, 0))
def OP (L : Own) : Post := fun v I' L' => ∃ b oa l c, v = .pointer (some ⟨b, 0, none⟩) ∧ Bytes I' oa l c ∧ l.length ≤ 2000 ∧ L' = rd b oa l c 0 :: L
theorem g_l6Open {I : Heap} {oa : Option Addr} {l : List UInt8} {c : Nat} (h : Bytes I oa l c) (L : Own) : Fun Tryz.prog 9 [.slice oa l.length c] I L (OP L) := by
  have hlen := h.len
  have hcap := h.cap
  refine fun_intro (by simp) ?_
  refine Se rfl (Oa rfl (o_done (s_seq (Se rfl (Om rfl ?_)))))
  refine o_len_slice rfl .free rfl ?_
  refine o_cmp rfl rfl rfl .free rfl ?_
  refine o_done ?_
  first | refine s_if rfl ?_ ?_ | refine s_ifn rfl ?_ ?_ | refine s_cond rfl ?_ ?_
  · intro c0
    refine o_enter rfl ?_
    refine Om rfl ?_
    refine o_slice_slice rfl rfl rfl 0 2000 rfl rfl (by omega) .free rfl ?_
    refine Oa rfl (o_done (Se rfl (Om rfl ?_)))
    refine o_struct rfl rfl rfl .free rfl ?_
    refine o_box rfl rfl .free rfl ?_
    intro b10
    refine Oa rfl (o_done ?_)
    refine s_ret (.tmp rfl .nil) ?_
    first
      | exact ⟨I, _, .refl _, fun _ h => h, _, oa, l, c, rfl, h, by omega, rfl⟩
      | (have h2 := h.take 2000 (by omega)
         have e : (l.take 2000).length = 2000 - 0 := by simp; omega
         exact ⟨I, _, .refl _, fun _ h => h, _, _, l.take 2000, c - 0, rfl, h2, by omega, by unfold rd; rw [e]; rfl⟩)
  intro c0
  refine s_skip (Se rfl (Om rfl ?_))
  refine o_struct rfl rfl rfl .free rfl ?_
  refine o_box rfl rfl .free rfl ?_
  intro b10
  refine Oa rfl (o_done ?_)
  refine s_ret (.tmp rfl .nil) ?_
  first
    | exact ⟨I, _, .refl _, fun _ h => h, _, oa, l, c, rfl, h, by omega, rfl⟩
    | (have h2 := h.take 2000 (by omega)
       have e : (l.take 2000).length = 2000 - 0 := by simp; omega
       exact ⟨I, _, .refl _, fun _ h => h, _, _, l.take 2000, c - 0, rfl, h2, by omega, by unfold rd; rw [e]; rfl⟩)

def PK (b : Nat) (oa : Option Addr) (l : List UInt8) (c p n : Nat) (I : Heap) (L : Own) : Post := fun v I' L' => ∃ r : Nat, v = .int .i64 (r : Nat) ∧ I = I' ∧ L' = rd b oa l c (p + 1) :: L ∧ (r < n ∨ r = 0)
theorem g_l6Rd_pick {I : Heap} {oa : Option Addr} {l : List UInt8} {c : Nat} (h : Bytes I oa l c) (hl : l.length ≤ 2000) (b p n : Nat) (hp : p ≤ 1099511627776) (hn : n ≤ 4294967296) (L : Own) :
  Fun Tryz.prog 11 [.pointer (some ⟨b, 0, none⟩), .int .i64 (n : Nat)] I (rd b oa l c p :: L) (PK b oa l c p n I L) := by
 unfold rd
 refine fun_intro (by simp) ?_
 refine Se rfl (Oa rfl (o_done (Se rfl (Om rfl (Om rfl ?_)))))
 refine o_nilCheck rfl .free rfl ?_
 first | refine o_fieldAddr rfl .free rfl ?_ | refine o_fieldAddr' rfl .free rfl ?_
 refine o_lS rfl .free rfl ?_
 refine o_arith rfl rfl rfl (by omega) .free rfl ?_
 refine o_nilCheck rfl .free rfl ?_
 first | refine o_fieldAddr rfl .free rfl ?_ | refine o_fieldAddr' rfl .free rfl ?_
 refine o_st rfl rfl rfl rfl .free ?_
 refine o_done (s_seq (Se rfl (Om rfl ?_)))
 refine o_cmp rfl rfl rfl .free rfl ?_
 refine Om rfl ?_
 first | refine g_if rfl rfl ?_ ?_ | refine g_ifn rfl rfl ?_ ?_ | refine g_b rfl rfl ?_ ?_
 ·intro g2_3
  iterate 6 refine o_skip rfl rfl rfl ?_
  refine o_pick_true rfl rfl .free rfl ?_
  refine o_done ?_
  refine s_true rfl ?_
  refine Se rfl (Oa rfl (o_done ?_))
  refine s_ret (.tmp rfl .nil) ?_
  exact ⟨I, _, .refl _, fun _ h => h, 0, rfl, rfl, rfl, .inr rfl⟩
 intro g2_3
 refine o_move rfl (.met rfl rfl) rfl ?_
 refine o_nilCheck rfl (.met rfl rfl) rfl ?_
 first | refine o_fieldAddr rfl (.met rfl rfl) rfl ?_ | refine o_fieldAddr' rfl (.met rfl rfl) rfl ?_
 refine o_lS rfl (.met rfl rfl) rfl ?_
 refine o_len_slice rfl (.met rfl rfl) rfl ?_
 refine o_cmp rfl rfl rfl (.met rfl rfl) rfl ?_
 refine o_pick_false rfl rfl .free rfl ?_
 refine o_done ?_
 first | refine s_if rfl ?_ ?_ | refine s_ifn rfl ?_ ?_ | refine s_cond rfl ?_ ?_
 ·intro c0
  refine Se rfl (Oa rfl (o_done ?_))
  refine s_ret (.tmp rfl .nil) ?_
  exact ⟨I, _, .refl _, fun _ h => h, 0, rfl, rfl, rfl, .inr rfl⟩
 intro c0
 refine s_skip (Se rfl (Om rfl ?_))
 refine o_nilCheck rfl .free rfl ?_
 first | refine o_fieldAddr rfl .free rfl ?_ | refine o_fieldAddr' rfl .free rfl ?_
 refine o_lS rfl .free rfl ?_
 refine o_arith rfl rfl rfl (by omega) .free rfl ?_
 refine Oa rfl (o_done (s_seq (s_seq ?_)))
 refine s_put (t := 5) (v' := .int .i64 (p : Nat)) rfl (by congr 1; omega) ?_
 refine o_enter rfl ?_
 refine Om rfl (Om rfl ?_)
 refine o_nilCheck rfl .free rfl ?_
 first | refine o_fieldAddr rfl .free rfl ?_ | refine o_fieldAddr' rfl .free rfl ?_
 refine o_lS rfl .free rfl ?_
 refine o_len_slice rfl .free rfl ?_
 refine o_cmp rfl rfl rfl .free rfl ?_
 refine o_done ?_
 first | refine s_if rfl ?_ ?_ | refine s_ifn rfl ?_ ?_ | refine s_cond rfl ?_ ?_
 ·intro c1
  obtain ⟨x, hx, hst⟩ := h.at p (by omega)
  refine Se rfl (Om rfl ?_)
  refine o_nilCheck rfl .free rfl ?_
  first | refine o_fieldAddr rfl .free rfl ?_ | refine o_fieldAddr' rfl .free rfl ?_
  refine o_lS rfl .free rfl ?_
  refine Om rfl ?_
  refine o_indexAddr' rfl rfl _ rfl (by first | omega | exact lt_of (by assumption) (by decide) | (simp; done) | (simp; omega) | decide | (simp at *; omega)) (by first | rfl | assumption) .free rfl ?_
  refine o_lS rfl .free rfl ?_
  refine o_byteInt rfl (by first | exact UInt8.toNat_lt _ | omega) .free rfl ?_
  refine Om rfl ?_
  refine o_rem rfl rfl (by omega) .free rfl ?_
  refine Oa rfl (o_done ?_)
  refine s_ret (.tmp rfl .nil) ?_
  exact ⟨I, _, .refl _, fun _ h => h, _, rfl, rfl, rfl, .inl (Nat.mod_lt _ (by omega))⟩
 intro c1
 have hpos : 0 < l.length := by omega
 obtain ⟨r1, hr1, hr1l⟩ : ∃ r, r = p % l.length ∧ r < l.length := ⟨_, rfl, Nat.mod_lt _ hpos⟩
 obtain ⟨r2, hr2, hr2l⟩ : ∃ r, r = (p * 7 + 3) % l.length ∧ r < l.length := ⟨_, rfl, Nat.mod_lt _ hpos⟩
 obtain ⟨q, hq, hqp⟩ : ∃ q, q = p / l.length ∧ q ≤ p := ⟨_, rfl, Nat.div_le_self _ _⟩
 obtain ⟨x1, hx1, u1, hu1, hst1⟩ : ∃ x, oa = some x ∧ ∃ u : Nat, u < 256 ∧ Still I (x.add (r1 * 1)) [.int .u8 (u : Nat)] := by
  obtain ⟨x, hx, hst⟩ := h.at r1 hr1l
  exact ⟨x, hx, _, UInt8.toNat_lt _, hst⟩
 obtain ⟨u2, hu2, hst2⟩ : ∃ u : Nat, u < 256 ∧ Still I (x1.add (r2 * 1)) [.int .u8 (u : Nat)] := by
  obtain ⟨x, hx, hst⟩ := h.at r2 hr2l
  obtain rfl : x1 = x := by rw [hx1] at hx; exact Option.some.inj hx
  exact ⟨_, UInt8.toNat_lt _, hst⟩
 clear h
 refine s_skip (s_seq ?_)
 refine d_all 46 rfl rfl ?_
 refine Da 0 rfl (y_move rfl) ?_
 refine Da 1 rfl (y_nilCheck rfl) ?_
 first | refine Da 2 rfl (y_fieldAddr rfl) ?_ | refine Da 2 rfl (y_fieldAddr' rfl) ?_
 refine Dt 3 [46] rfl (y_lS rfl) ?_
 refine Da 4 rfl (y_move rfl) ?_
 refine Da 5 rfl (y_move rfl) ?_
 refine Da 6 rfl (y_nilCheck rfl) ?_
 first | refine Da 7 rfl (y_fieldAddr rfl) ?_ | refine Da 7 rfl (y_fieldAddr' rfl) ?_
 refine Dt 8 [46] rfl (y_lS rfl) ?_
 refine Da 9 rfl (y_len_slice rfl) ?_
 refine Da 10 rfl (y_rem rfl rfl (by omega)) ?_
 refine d_put (t := 57) rfl (v' := .int .i64 (r1 : Nat)) (by rw [hr1]) ?_
 refine d_takeA 11 rfl (by kernel_rfl) rfl (.inr heldx) (y_indexAddr' rfl rfl _ rfl (by first | omega | exact lt_of (by assumption) (by decide) | (simp; done) | (simp; omega) | decide | (simp at *; omega)) (by first | rfl | assumption)) .free rfl ?_
 refine Dt 12 [46] rfl (y_lS rfl) ?_
 refine d_takeA 13 rfl (by kernel_rfl) rfl (.inr heldx) (y_byteInt rfl (by first | exact UInt8.toNat_lt _ | omega)) .free rfl ?_
 refine Da 14 rfl (y_arith rfl rfl rfl (by omega)) ?_
 refine Da 15 rfl (y_move rfl) ?_
 refine Da 16 rfl (y_nilCheck rfl) ?_
 first | refine Da 17 rfl (y_fieldAddr rfl) ?_ | refine Da 17 rfl (y_fieldAddr' rfl) ?_
 refine Dt 18 [46] rfl (y_lS rfl) ?_
 refine Da 19 rfl (y_move rfl) ?_
 refine Da 20 rfl (y_arith rfl rfl rfl (by omega)) ?_
 refine Da 21 rfl (y_arith rfl rfl rfl (by omega)) ?_
 refine Da 22 rfl (y_move rfl) ?_
 refine Da 23 rfl (y_nilCheck rfl) ?_
 first | refine Da 24 rfl (y_fieldAddr rfl) ?_ | refine Da 24 rfl (y_fieldAddr' rfl) ?_
 refine Dt 25 [46] rfl (y_lS rfl) ?_
 refine Da 26 rfl (y_len_slice rfl) ?_
 refine d_put (t := 68) rfl (v' := .int .i64 ((p * 7 + 3 : Nat))) (by congr 1) ?_
 refine Da 27 rfl (y_rem rfl rfl (by omega)) ?_
 refine d_put (t := 74) rfl (v' := .int .i64 (r2 : Nat)) (by rw [hr2]) ?_
 refine d_takeA 28 rfl (by kernel_rfl) rfl (.inr heldx) (y_indexAddr' rfl rfl _ rfl (by first | omega | exact lt_of (by assumption) (by decide) | (simp; done) | (simp; omega) | decide | (simp at *; omega)) (by first | rfl | assumption)) .free rfl ?_
 refine Dt 29 [46] rfl (y_lS rfl) ?_
 refine d_takeA 30 rfl (by kernel_rfl) rfl (.inr heldx) (y_byteInt rfl (by first | exact UInt8.toNat_lt _ | omega)) .free rfl ?_
 refine Da 31 rfl (y_arith rfl rfl rfl (by omega)) ?_
 refine Da 32 rfl (y_arith rfl rfl rfl (by omega)) ?_
 refine Da 33 rfl (y_move rfl) ?_
 refine Da 34 rfl (y_arith rfl rfl rfl (by omega)) ?_
 refine Da 35 rfl (y_arith rfl rfl rfl (by omega)) ?_
 refine Da 36 rfl (y_move rfl) ?_
 refine Da 37 rfl (y_move rfl) ?_
 refine Da 38 rfl (y_nilCheck rfl) ?_
 first | refine Da 39 rfl (y_fieldAddr rfl) ?_ | refine Da 39 rfl (y_fieldAddr' rfl) ?_
 refine Dt 40 [46] rfl (y_lS rfl) ?_
 refine Da 41 rfl (y_len_slice rfl) ?_
 refine Da 42 rfl (y_quo rfl rfl (by omega) (by omega)) ?_
 refine d_put (t := 89) rfl (v' := .int .i64 (q : Nat)) (by rw [hq]) ?_
 refine Da 43 rfl (y_arith rfl rfl rfl (by omega)) ?_
 refine Da 44 rfl (y_arith rfl rfl rfl (by omega)) ?_
 refine Da 45 rfl (y_assign rfl) ?_
 refine d_done (by kernel_rfl) ?_
 refine s_seq ?_
 obtain ⟨m, hm, hm2⟩ : ∃ m : Nat, (m : Int) = ↑u1 * 131 + ↑u2 * 1117 + ↑p * 29 + ↑q * 53 ∧ m ≤ 1152921504606846976 := ⟨u1 * 131 + u2 * 1117 + p * 29 + q * 53, by omega, by omega⟩
 refine s_put (t := 6) (v' := .int .i64 (m : Nat)) rfl (by congr 1; omega) ?_
 refine o_enter rfl ?_
 refine Om rfl (Om rfl ?_)
 refine o_quo (b := 64) rfl rfl (by omega) (by omega) .free rfl ?_
 refine o_xor rfl rfl (by omega) (by omega) .free rfl ?_
 refine Oa rfl (o_done (Se rfl (Om rfl (Om rfl ?_))))
 refine o_rem rfl rfl (by omega) .free rfl ?_
 refine Oa rfl (o_done ?_)
 refine s_ret (.tmp rfl .nil) ?_
 exact ⟨I, _, .refl _, fun _ h => h, _, rfl, rfl, rfl, .inl (Nat.mod_lt _ (by omega))⟩
def OF (b : Nat) (oa : Option Addr) (l : List UInt8) (c p : Nat) (ts : List Txt) (I : Heap) (L : Own) : Post := fun v I' L' => ∃ s, v = .string (str s) ∧ s ∈ ts ∧ I = I' ∧ L' = rd b oa l c (p + 1) :: L
theorem g_l6Rd_of {I : Heap} {oa : Option Addr} {l : List UInt8} {c : Nat} (h : Bytes I oa l c) (hl : l.length ≤ 2000) (b p : Nat) (hp : p ≤ 1099511627776) {ob : Option Addr} {ts : List Txt} {c' : Nat} (hts : Strs I ob ts c') (hne : ts ≠ []) (L : Own) :
  Fun Tryz.prog 22 [.pointer (some ⟨b, 0, none⟩), .slice ob ts.length c'] I (rd b oa l c p :: L) (OF b oa l c p ts I L) := by
 have hlen := hts.len
 unfold maxN at hlen
 have hpos := List.length_pos_iff.2 hne
 refine fun_intro (by simp) ?_
 refine Se rfl (Oa rfl (o_done (Se rfl ?_)))
 iterate 3 refine Om rfl ?_
 refine o_len_slice rfl .free rfl ?_
 refine o_call rfl .free rfl (g_l6Rd_pick h hl b p ts.length hp hlen L) ?_
 rintro _ _ _ _ ⟨r, rfl, rfl, rfl, hr⟩
 obtain ⟨x, hx, hst⟩ := hts.at r (by omega)
 refine o_indexAddr' rfl rfl _ rfl (by first | omega | exact lt_of (by assumption) (by decide) | (simp; done) | (simp; omega) | decide | (simp at *; omega)) (by first | rfl | assumption) .free rfl ?_
 refine o_lS rfl .free rfl ?_
 refine Oa rfl (o_done ?_)
 refine s_ret (.tmp rfl .nil) ?_
 exact ⟨I, _, .refl _, fun _ h => h, _, rfl, List.getElem_mem _, rfl, rfl⟩

/-- A list of texts in still memory. -/
def LS1 (l : List Txt) (L : Own) : Post := fun v I' L' => ∃ oa c, v = .slice oa (List.length l) c ∧ Strs I' oa l c ∧ L = L'
theorem g_l3With {I : Heap} {oa ob : Option Addr} {l m : List Txt} {c c' : Nat} (h : Strs I oa l c) (h' : Strs I ob m c') (hlm : l.length + m.length ≤ maxN) (L : Own) :
  Fun Tryz.prog 100 [.slice oa l.length c, .slice ob m.length c'] I L (LS1 (l ++ m) L) := by
 unfold maxN at hlm
 refine fun_intro (by simp) ?_
 refine Se rfl (Oa rfl (o_done (Se rfl ?_)))
 refine o_lits0 .free rfl ?_
 intro b5
 refine Om rfl ?_
 refine o_appendB (B := some (b5, [])) (xs := []) (ys := l.map sv) (m := 0) (c := 0) (by intro kk; simp) (by rfl) rfl rfl ⟨rfl, Nat.le_refl _, rfl⟩ (fun _ h => h) (by simp) h.reads h.none (sv_plain l) (by decide) (by omega) (by decide) .free rfl ?_
 intro B1 c1 hB1
 refine Om rfl ?_
 refine o_appendB (B := B1) (xs := [] ++ l.map sv) (ys := m.map sv) (m := 0 + l.length) (c := c1) (by intro kk; simp) (by rfl) rfl rfl hB1 (fun _ h => h) (by simp) h'.reads h'.none (sv_plain m) (by decide) (by omega) (by decide) .free rfl ?_
 intro B2 c2 hB2
 rw [List.nil_append, ← List.map_append] at hB2 ⊢
 refine Oa rfl (o_done ?_)
 refine s_freezeStrs hB2 (by simp) (by simp; unfold maxN; omega) (fun s hs => by rcases List.mem_append.1 hs with hs | hs; exact h.each s hs; exact h'.each s hs) ?_
 intro I2 oc c3 hle hv hst
 refine s_ret (.tmp rfl .nil) ?_
 exact ⟨I2, L, hle, fun _ h => h, oc, c3, hv, hst, rfl⟩

/-- Two lists of texts in still memory; the reader has gone on. -/
def EV (b : Nat) (oa : Option Addr) (l : List UInt8) (c p : Nat) (L : Own) : Post := fun v I' L' => ∃ o1 n1 c1 o2 n2 c2, v = .tuple #[.slice o1 (List.length n1) c1, .slice o2 (List.length n2) c2] ∧ Strs I' o1 n1 c1 ∧ Strs I' o2 n2 c2 ∧ n1.length ≤ 16 ∧ n2.length ≤ 16 ∧ (∀ s ∈ n1, s.length ≤ 16) ∧ (∀ s ∈ n2, s.length ≤ 16) ∧ L' = rd b oa l c (p + 1) :: L
theorem strs_lit {I : Heap} {b : Nat} {l : List Txt} {e : TypeId} (hlen : l.length ≤ maxN) (hs : ∀ s ∈ l, s.length ≤ maxN) : Strs (I.set b (.cells (l.map sv).toArray e (0, 0))) (some ⟨b, 0, none⟩) l l.length :=
 ⟨fun y hy => by cases hy; simpa using still_set (xs := l.map sv) (ys := []), by simp, Nat.le_refl _, hlen, hs⟩
theorem o_freezeLit {P : Program} {f : FuncId} {n : Nat} {I₀ : Heap} {Q : Post} {k : List Item} {E : Env} {I : Heap} {L : Own} {ops : Array Oper} {ol : List Oper} {e : TypeId} {b : Nat} (l : List Txt) (hlen : l.length ≤ maxN) (hs : ∀ s ∈ l, s.length ≤ maxN)
  (h : ∀ I', HLe I I' → Strs I' (some ⟨b, 0, none⟩) l l.length → RunO P f n I₀ Q ops ol k E I' L) : RunO P f n I₀ Q ops ol k E I ((b, .cells (l.map sv).toArray e (0, 0)) :: L) :=
 o_freeze fun hle => h _ hle (strs_lit hlen hs)
/-- A drawn environment. -/
def DE (L : Own) : Post := fun v I' L' => ∃ o1 n1 c1 o2 n2 c2, v = .tuple #[.slice o1 (List.length n1) c1, .slice o2 (List.length n2) c2] ∧ Strs I' o1 n1 c1 ∧ Strs I' o2 n2 c2 ∧ n1.length ≤ 16 ∧ n2.length ≤ 16 ∧ (∀ s ∈ n1, s.length ≤ 16) ∧ (∀ s ∈ n2, s.length ≤ 16) ∧ L = L'
def DL (L : Own) : Post := fun v I' L' => ∃ o1 n1 c1 o2 n2 c2 s, v = .tuple #[.slice o1 (List.length n1) c1, .slice o2 (List.length n2) c2, .string (str s)] ∧ Strs I' o1 n1 c1 ∧ Strs I' o2 n2 c2 ∧ n1.length ≤ 16 ∧ n2.length ≤ 16 ∧ (∀ s ∈ n1, s.length ≤ 16) ∧ (∀ s ∈ n2, s.length ≤ 16) ∧ s.length ≤ 16 ∧ L = L'
def TOm (r : Except Ex Ty) (ok : Bool) (u w : Tree) : Prop := match r with
 | .ok t => ok = true ∧ u = t.tree
 | .error x => ok = false ∧ w = x.tree
/-- What gives an expression's type returns. -/
def TO (r : Except Ex Ty) (L : Own) : Post := fun v I' L' => ∃ u cs w ds ok, v = .tuple #[.agg cs.toArray, .agg ds.toArray, .bool ok] ∧ Rep I' u cs ∧ Rep I' w ds ∧ L = L' ∧ TOm r ok u w
/-- What a part's type has come to, and where it lies. -/
structure TR where
 J : Heap
 b1 : Nat
 b2 : Nat
 u : Tree
 w : Tree
 o1 : Option Addr
 k1 : Nat
 o2 : Option Addr
 k2 : Nat
 ok : Bool
/-- What the loop over the parts has gathered. -/
structure TG where
 J : Heap
 ts : List Ty
 xs : List Value
 B : Buf
 c : Nat
def TG.is (e : Ex) (l : List Txt) (m : List Ty) (J0 : Heap) (x : TG) : Prop := HLe J0 x.J ∧ x.ts.length ≤ e.sub.length ∧ RepL x.J (x.ts.map Ty.tree) x.xs ∧ BufOk 2 x.ts.length x.c x.xs x.B ∧ smallL x.ts ∧
 e.runs l m = e.run l m (e.sub.drop x.ts.length) ((kids e.tree).drop x.ts.length) x.ts

/-- Both types of a type with a sign. -/
def twoOf (sg s : Txt) : Option (Ty × Ty) := match tyOf s with
 | some (.fn a b) => if sg = [62] then some (a, b) else none
 | some (.pr a b) => if sg = [42] then some (a, b) else none
 | _ => none
def t1 (o : Option (Ty × Ty)) : Txt := (o.map fun p => p.1.tree.text).getD []
def t2 (o : Option (Ty × Ty)) : Txt := (o.map fun p => p.2.tree.text).getD []
theorem twoOf_none {sg s : Txt} (h : tyOf s = none) : twoOf sg s = none := by unfold twoOf; rw [h]
theorem twoOf_tree {sg s : Txt} {a : Ty} (h : tyOf s = some a) : (a.tree.atom = [] ∧ a.tree.head = sg → ∃ x y, twoOf sg s = some (x, y) ∧ a.tree.parts.length = 3 ∧ a.tree.pt 1 = x.tree ∧ a.tree.pt 2 = y.tree) ∧ (¬ (a.tree.atom = [] ∧ a.tree.head = sg) → twoOf sg s = none) := by
 unfold twoOf
 rw [h]
 cases a with
 | i => exact ⟨fun h => absurd h.1 (by decide), fun _ => rfl⟩
 | fn x y =>
  refine ⟨fun h => ⟨x, y, if_pos (show sg = [62] from h.2.symm), rfl, rfl, rfl⟩, fun h => if_neg fun e => h ⟨rfl, e.symm⟩⟩
 | pr x y =>
  refine ⟨fun h => ⟨x, y, if_pos (show sg = [42] from h.2.symm), rfl, rfl, rfl⟩, fun h => if_neg fun e => h ⟨rfl, e.symm⟩⟩
/-- A type made of both. -/
def mkTy (f : Bool) (a b : Ty) : Ty := if f then .fn a b else .pr a b
def mkOf (f : Bool) (a b : Txt) : Option Txt := match tyOf a, tyOf b with
 | some x, some y => if (mkTy f x y).size ≤ 16 then some (mkTy f x y).tree.text else none
 | _, _ => none
def sgn (f : Bool) : Txt := if f then [62] else [42]
/-- What the reference joins, by texts. -/
def joinT (h k0 k1 k2 : Txt) : Txt :=
 if h = tIf ∧ k0 = [105] ∧ k1 = k2 then k1
 else if h = tCall ∧ (twoOf [62] k0).isSome = true ∧ t1 (twoOf [62] k0) = k1 then t2 (twoOf [62] k0)
 else if h = tPair then (mkOf false k0 k1).getD []
 else if h = tFst ∧ (twoOf [42] k0).isSome = true then t1 (twoOf [42] k0)
 else if h = tSnd ∧ (twoOf [42] k0).isSome = true then t2 (twoOf [42] k0)
 else if (h = [43] ∨ h = [45] ∨ h = [42]) ∧ k0 = [105] ∧ k1 = [105] then [105]
 else []
def arity (h : Txt) (n : Nat) : Prop := (∃ o : B5, h = o.txt ∧ n = 2) ∨ (h = tIf ∧ n = 3) ∨ (∃ o : U2, h = o.txt ∧ n = 1)
abbrev tx (m : List Ty) : List Txt := m.map fun t => t.tree.text
/-- A text is returned. -/
def ST (s : Txt) (L : Own) : Post := fun v I' L' => v = .string (str s) ∧ L = L'
def TW (o : Option (Ty × Ty)) (L : Own) : Post := fun v I' L' => v = .tuple #[.string (str (t1 o)), .string (str (t2 o)), .bool o.isSome] ∧ L = L'
theorem tyOf_read {s : Txt} {t : Tree} {ok : Bool} (hpf : match parse s with | some t0 => ok = true ∧ t = t0 | none => ok = false) : (ok = true → t.typed = true → ∃ a, tyOf s = some a ∧ t = a.tree ∧ a.size ≤ 16) ∧ (ok = false ∨ t.typed = false → tyOf s = none) := by
 have e : typeOf s = bif ok && t.typed then some t else none := by
  unfold typeOf
  cases hp : parse s with
  | none => rw [hp] at hpf; simp [hpf]
  | some t0 => rw [hp] at hpf; obtain ⟨rfl, rfl⟩ := hpf; simp only [Bool.true_and]
 constructor
 ·intro h1 h2
  rw [h1, h2] at e
  obtain ⟨a, h3, h4, h5, _⟩ := tyOf_of e
  exact ⟨a, h3, h4, h5⟩
 ·intro h
  have : typeOf s = none := by rw [e]; rcases h with h | h <;> simp [h]
  unfold tyOf; rw [this]; rfl
theorem g_l1Two (s sg : Txt) (hs : s.length ≤ maxN) (I : Heap) (L : Own) : Fun Tryz.prog 115 [.string (str s), .string (str sg)] I L (TW (twoOf sg s) L) := by
 refine fun_intro (by simp) ?_
 refine Se rfl ?_
 iterate 3 refine Oa rfl ?_
 refine o_done (Se rfl (Om rfl ?_))
 refine o_call rfl .free rfl (g_l1Parse s hs _ _) ?_
 rintro _ J _ e1 ⟨t, cs, ok, rfl, hrep, rfl, hpf⟩
 obtain ⟨oa, c, oaf, cf, rfl, hf⟩ := hrep.at'
 have hty := tyOf_read hpf
 have hn := hf.nil
 refine Om rfl ?_
 refine o_extract rfl rfl .free rfl ?_
 refine o_extract rfl rfl .free rfl ?_
 refine o_alloc .free rfl ?_
 intro b7
 refine o_st rfl rfl rfl rfl .free ?_
 refine Oa rfl (o_done (s_seq (Se rfl (Om rfl ?_))))
 refine o_not rfl .free rfl ?_
 refine Om rfl ?_
 apply o_or 16 20 rfl
 ·intro g2_3 hk
  try simp only [nb] at g2_3
  have hp := parse_good (RD_some hpf g2_3)
  refine o_lOS rfl (.met rfl rfl) rfl ?_
  refine o_call rfl (.met rfl rfl) rfl (g_l1Typed hf.rep hp.1 (Tree.size_maxN hp.2.1) _) ?_
  rintro _ _ _ _ ⟨rfl, rfl, rfl⟩
  refine o_not rfl (.met rfl rfl) rfl ?_
  refine o_pick_false rfl rfl .free rfl ?_
  exact o_fin 3 rfl rfl hk
 ·intro _ hk
  refine o_skips 3 rfl ?_
  refine o_pick_true rfl rfl .free rfl ?_
  exact o_fin 3 rfl rfl hk
 refine Om rfl ?_
 apply o_or 21 25 rfl
 ·intro g2_8 hk
  try simp only [nb] at g2_8
  refine o_fieldAddr rfl (.met rfl rfl) rfl ?_
  refine o_lO1 rfl (.met rfl rfl) rfl ?_
  refine o_cmps rfl rfl rfl (.met rfl rfl) rfl ?_
  refine o_pick_false rfl rfl .free rfl ?_
  exact o_fin 3 rfl rfl hk
 ·intro _ hk
  refine o_skips 3 rfl ?_
  refine o_pick_true rfl rfl .free rfl ?_
  exact o_fin 3 rfl rfl hk
 refine Om rfl ?_
 apply o_or 26 34 rfl
 ·intro g2_13 hk
  try simp only [nb] at g2_13
  have hp := parse_good (RD_some hpf g2_13.1.1)
  have hne := (good_ne hp.1 (by simpa using g2_13.2)).2
  refine o_fieldAddr rfl (.met rfl rfl) rfl ?_
  refine o_lO1 rfl (.met rfl rfl) rfl ?_
  first | refine o_ixD rfl rfl 0 rfl (.met rfl rfl) rfl ?_ | refine o_ixP rfl rfl 0 rfl (.met rfl rfl) rfl ?_
  refine o_fieldAddr' rfl (.met rfl rfl) rfl ?_
  refine o_lIF rfl (.met rfl rfl) rfl ?_
  refine o_move rfl (.met rfl rfl) rfl ?_
  refine o_cmps rfl rfl rfl (.met rfl rfl) rfl ?_
  refine o_pick_false rfl rfl .free rfl ?_
  exact o_fin 7 rfl rfl hk
 ·intro _ hk
  refine o_skips 7 rfl ?_
  refine o_pick_true rfl rfl .free rfl ?_
  exact o_fin 7 rfl rfl hk
 refine o_done ?_
 refine s_cond rfl ?_ ?_
 ·intro c0
  try simp only [nb] at c0
  refine Se rfl ?_
  iterate 3 refine Oa rfl ?_
  refine o_done ?_
  refine s_ret (.tmp rfl (.tmp rfl (.tmp rfl .nil))) ?_
  refine ⟨J, L, e1, drops, ?_, rfl⟩
  have hz : twoOf sg s = none := by
   by_cases h1 : ok = true
   ·by_cases h2 : t.typed = true
    ·obtain ⟨a, h3, rfl, h4⟩ := hty.1 h1 h2
     refine (twoOf_tree h3).2 ?_
     rintro ⟨h5, h6⟩
     rcases c0 with ((h | h) | h) | h
     ·rw [h1] at h; cases h
     ·rw [h2] at h; cases h
     ·exact h h5
     ·have hp := parse_good (RD_some hpf h1)
      exact h ((head_at (good_ne hp.1 h5).2).symm.trans h6)
    ·exact twoOf_none (hty.2 (.inr (by simpa using h2)))
   ·exact twoOf_none (hty.2 (.inl (by simpa using h1)))
  rw [hz]; rfl
 intro c0
 try simp only [nb] at c0
 obtain ⟨⟨⟨h1, h2⟩, h3⟩, h4⟩ := c0
 have hp := parse_good (RD_some hpf h1)
 have hne := (good_ne hp.1 (by simpa using h3)).2
 obtain ⟨a, h5, rfl, h6⟩ := hty.1 h1 h2
 obtain ⟨x, y, h7, h8, h9, h10⟩ := (twoOf_tree h5).1 ⟨by simpa using h3, (head_at hne).trans (by simpa using h4)⟩
 have hx := Tree.pt_good hp.1 1 (by omega)
 have hy := Tree.pt_good hp.1 2 (by omega)
 have hl1 := a.tree.pt_len 1 (by omega)
 have hl2 := a.tree.pt_len 2 (by omega)
 refine s_skip (s_seq ?_)
 refine d_all 13 rfl rfl ?_
 refine Da 0 rfl (y_fieldAddr rfl) ?_
 refine Dt 1 [13] rfl (y_lO1 rfl) ?_
 first | refine Da 2 rfl (y_ixD rfl rfl 1 rfl) ?_ | refine Da 2 rfl (y_ixP rfl rfl 1 rfl) ?_
 refine Dt 3 [13] rfl (y_lIS rfl) ?_
 refine Da 5 rfl (y_fieldAddr rfl) ?_
 refine Dt 6 [13] rfl (y_lO1 rfl) ?_
 first | refine Da 7 rfl (y_ixD rfl rfl 2 rfl) ?_ | refine Da 7 rfl (y_ixP rfl rfl 2 rfl) ?_
 refine Dt 8 [13] rfl (y_lIS rfl) ?_
 refine d_call 4 rfl (by kernel_rfl) rfl rfl .free rfl (g_l1Text _ (Nat.lt_succ_self _) (hf.rp 1 (by omega)) hx (by omega) _) ?_
 rintro _ _ _ _ ⟨rfl, rfl, rfl⟩
 refine ⟨(.inr heldx), ?_⟩
 refine d_call 9 rfl (by kernel_rfl) rfl rfl .free rfl (g_l1Text _ (Nat.lt_succ_self _) (hf.rp 2 (by omega)) hy (by omega) _) ?_
 rintro _ _ _ _ ⟨rfl, rfl, rfl⟩
 refine ⟨(.inr heldx), ?_⟩
 refine Da 10 rfl (y_assign rfl) ?_
 refine Da 11 rfl (y_assign rfl) ?_
 refine Da 12 rfl (y_assign rfl) ?_
 refine d_done (by kernel_rfl) ?_
 refine s_ret (.tmp rfl (.tmp rfl (.tmp rfl .nil))) ?_
 exact ⟨J, L, e1, drops, by rw [h7, h9, h10]; rfl, rfl⟩
theorem g_TypeFun (s : Txt) (hs : s.length ≤ maxN) (I : Heap) (L : Own) : Fun Tryz.prog 102 [.string (str s)] I L (TW (twoOf [62] s) L) := by
 refine fun_intro (by simp) ?_
 refine Se rfl ?_
 iterate 3 refine Oa rfl ?_
 refine o_done (Se rfl (Om rfl ?_))
 refine o_call rfl .free rfl (g_l1Two s [62] hs _ _) ?_
 rintro _ J _ e1 ⟨rfl, rfl⟩
 iterate 3 refine o_extract rfl rfl .free rfl ?_
 iterate 3 refine Oa rfl ?_
 refine o_done ?_
 refine s_ret (.tmp rfl (.tmp rfl (.tmp rfl .nil))) ?_
 exact ⟨J, L, e1, drops, rfl, rfl⟩
theorem g_TypePair (s : Txt) (hs : s.length ≤ maxN) (I : Heap) (L : Own) : Fun Tryz.prog 101 [.string (str s)] I L (TW (twoOf [42] s) L) := by
 refine fun_intro (by simp) ?_
 refine Se rfl ?_
 iterate 3 refine Oa rfl ?_
 refine o_done (Se rfl (Om rfl ?_))
 refine o_call rfl .free rfl (g_l1Two s [42] hs _ _) ?_
 rintro _ J _ e1 ⟨rfl, rfl⟩
 iterate 3 refine o_extract rfl rfl .free rfl ?_
 iterate 3 refine Oa rfl ?_
 refine o_done ?_
 refine s_ret (.tmp rfl (.tmp rfl (.tmp rfl .nil))) ?_
 exact ⟨J, L, e1, drops, rfl, rfl⟩
theorem RStrs.mono {I I' : Heap} (hle : HLe I I') {L : Own} {oa : Option Addr} {l : List Txt} (h : RStrs I L oa l) : RStrs I' L oa l := ⟨fun a ha => reads_mono hle (h.reads a ha), h.nil, h.len⟩
end Go.Proofs.YtpfacnejglnjfaaGreatDoor
