
/- Environments as they are drawn: two lists of texts. No conditions. -/
import Derived.Test.YthfkmfacmijbpaaD1
import Derived.Test.YthfkmfacmijbpaaOps5
namespace Go.Proofs.Ythfkmfacmijbpaa
set_option maxRecDepth 100000
set_option linter.unusedVariables false
set_option linter.unusedSimpArgs false

def OF (b : Nat) (oa : Option Addr) (l : List UInt8) (c p : Nat) (ts : List Txt) (I : Heap) (L : Own) : Post := fun v I' L' => ∃ s, v = .string (str s) ∧ s ∈ ts ∧ I = I' ∧ L' = rd b oa l c (p + 1) :: L
/-- A list of texts in still memory. -/
def LS1 (l : List Txt) (L : Own) : Post := fun v I' L' => ∃ oa c, v = .slice oa (List.length l) c ∧ Strs I' oa l c ∧ L = L'
theorem g_l3With {I : Heap} {oa ob : Option Addr} {l m : List Txt} {c c' : Nat} (h : Strs I oa l c) (h' : Strs I ob m c') (hlm : l.length + m.length ≤ maxN) (L : Own) :
    Fun Try.prog 17 [.slice oa l.length c, .slice ob m.length c'] I L (LS1 (l ++ m) L) := by
  unfold maxN at hlm
  refine fun_intro (by simp) ?_
  refine s_seq ?_
  refine o_enter rfl ?_
  refine o_assign rfl .free rfl ?_
  refine o_done ?_
  refine s_seq ?_
  refine o_enter rfl ?_
  refine o_lits0 .free rfl ?_
  intro b5
  refine o_move rfl .free rfl ?_
  refine o_appendB (B := some (b5, [])) (xs := []) (ys := l.map sv) (m := 0) (c := 0) (by intro kk; simp) (by rfl) rfl rfl ⟨rfl, Nat.le_refl _, rfl⟩ (fun _ h => h) (by simp) h.reads h.none (sv_plain l) (by decide) (by omega) (by decide) .free rfl ?_
  intro B1 c1 hB1
  refine o_move rfl .free rfl ?_
  refine o_appendB (B := B1) (xs := [] ++ l.map sv) (ys := m.map sv) (m := 0 + l.length) (c := c1) (by intro kk; simp) (by rfl) rfl rfl hB1 (fun _ h => h) (by simp) h'.reads h'.none (sv_plain m) (by decide) (by omega) (by decide) .free rfl ?_
  intro B2 c2 hB2
  rw [List.nil_append, ← List.map_append] at hB2 ⊢
  refine o_assign rfl .free rfl ?_
  refine o_done ?_
  refine s_freezeStrs hB2 (by simp) (by simp; unfold maxN; omega) (fun s hs => by rcases List.mem_append.1 hs with hs | hs; exact h.each s hs; exact h'.each s hs) ?_
  intro I2 oc c3 hle hv hst
  refine s_ret (.tmp rfl .nil) ?_
  exact ⟨I2, L, hle, fun _ h => h, oc, c3, hv, hst, rfl⟩

/-- Two lists of texts in still memory; the reader has gone on. -/
def EV (b : Nat) (oa : Option Addr) (l : List UInt8) (c p : Nat) (L : Own) : Post := fun v I' L' => ∃ o1 n1 c1 o2 n2 c2, v = .tuple #[.slice o1 (List.length n1) c1, .slice o2 (List.length n2) c2] ∧ Strs I' o1 n1 c1 ∧ Strs I' o2 n2 c2 ∧ n1.length ≤ 16 ∧ n2.length ≤ 16 ∧ (∀ s ∈ n1, s.length ≤ 16) ∧ (∀ s ∈ n2, s.length ≤ 16) ∧ L' = rd b oa l c (p + 1) :: L
theorem strs_lit {I : Heap} {b : Nat} {l : List Txt} {e : TypeId} (hlen : l.length ≤ maxN) (hs : ∀ s ∈ l, s.length ≤ maxN) : Strs (I.set b (.cells (l.map sv).toArray e (0, 0))) (some ⟨b, 0, none⟩) l l.length :=
  ⟨fun y hy => by cases hy; simpa using still_set (xs := l.map sv) (ys := []), by simp, Nat.le_refl _, hlen, hs⟩
theorem s_freezeLit {P : Program} {f : FuncId} {n : Nat} {I₀ : Heap} {Q : Post} {todo : List Item} {E : Env} {I : Heap} {L : Own} {e : TypeId} {b : Nat} (l : List Txt) (hlen : l.length ≤ maxN) (hs : ∀ s ∈ l, s.length ≤ maxN)
    (h : ∀ I', HLe I I' → Strs I' (some ⟨b, 0, none⟩) l l.length → RunS P f n I₀ Q todo E I' L) : RunS P f n I₀ Q todo E I ((b, .cells (l.map sv).toArray e (0, 0)) :: L) :=
  s_freeze fun hle => h _ hle (strs_lit hlen hs)
theorem o_freezeLit {P : Program} {f : FuncId} {n : Nat} {I₀ : Heap} {Q : Post} {k : List Item} {E : Env} {I : Heap} {L : Own} {ops : Array Oper} {ol : List Oper} {e : TypeId} {b : Nat} (l : List Txt) (hlen : l.length ≤ maxN) (hs : ∀ s ∈ l, s.length ≤ maxN)
    (h : ∀ I', HLe I I' → Strs I' (some ⟨b, 0, none⟩) l l.length → RunO P f n I₀ Q ops ol k E I' L) : RunO P f n I₀ Q ops ol k E I ((b, .cells (l.map sv).toArray e (0, 0)) :: L) :=
  o_freeze fun hle => h _ hle (strs_lit hlen hs)
theorem g_l91Env {I : Heap} {oa : Option Addr} {l : List UInt8} {c : Nat} (h : Bytes I oa l c) (hl : l.length ≤ 2000) (b p : Nat) (hp : p ≤ 1099511627776) (L : Own) :
    Fun Try.prog 9 [.pointer (some ⟨b, 0, none⟩)] I (rd b oa l c p :: L) (EV b oa l c p L) := by
  refine fun_intro (by simp) ?_
  refine s_seq ?_
  refine o_enter rfl ?_
  refine o_assign rfl .free rfl ?_
  refine o_assign rfl .free rfl ?_
  refine o_done ?_
  refine s_seq ?_
  refine o_enter rfl ?_
  refine o_lits rfl rfl (by rfl) (by rfl) (by rfl) (by decide) (by decide) (by rfl) .free rfl ?_
  intro b6
  refine o_assign rfl .free rfl ?_
  refine o_done ?_
  refine s_seq ?_
  refine s_freezeLit [[97], [98], [120, 48]] (by decide) (by decide) ?_
  intro J1 e1 k1
  refine o_enter rfl ?_
  refine o_lits rfl rfl (by rfl) (by rfl) (by rfl) (by decide) (by decide) (by rfl) .free rfl ?_
  intro b7
  refine o_assign rfl .free rfl ?_
  refine o_done ?_
  refine s_seq ?_
  refine s_seq ?_
  refine s_freezeLit [[105], [40, 42, 32, 105, 32, 105, 41], [105]] (by decide) (by decide) ?_
  intro J2 e2 k2
  replace k1 := k1.mono e2
  replace h := h.mono (e1.trans e2)
  have e3 := e1.trans e2
  refine o_enter rfl ?_
  refine o_move rfl .free rfl ?_
  refine o_call rfl .free rfl (g_l6Rd_pick h hl b p 12 hp (by decide) L) ?_
  rintro _ _ _ _ ⟨r, rfl, rfl, rfl, hr⟩
  refine o_done ?_
  refine s_block ?_
  refine s_seq ?_
  refine o_enter rfl ?_
  refine o_cmp rfl rfl rfl .free rfl ?_
  refine o_assign rfl .free rfl ?_
  refine o_done ?_
  first | refine s_if rfl ?_ ?_ | refine s_ifn rfl ?_ ?_ | refine s_cond rfl ?_ ?_
  · intro c0
    refine s_seq ?_
    refine d_but 0 5 rfl rfl ?_
    refine d_take 0 rfl (by kernel_rfl) rfl (by first | exact fun _ h => h | exact fun _ h => h.er 0 rfl | exact fun _ h => h.er 1 rfl | exact fun _ h => h.er 2 rfl | exact fun _ h => h.er 3 rfl | exact fun _ h => h.er 4 rfl | exact fun _ h => h.er 5 rfl | exact fun _ h => h.er 6 rfl) (y_move rfl) .free rfl ?_
    refine d_take 1 rfl (by kernel_rfl) rfl (by first | exact fun _ h => h | exact fun _ h => h.er 0 rfl | exact fun _ h => h.er 1 rfl | exact fun _ h => h.er 2 rfl | exact fun _ h => h.er 3 rfl | exact fun _ h => h.er 4 rfl | exact fun _ h => h.er 5 rfl | exact fun _ h => h.er 6 rfl) (y_move rfl) .free rfl ?_
    refine d_take 2 rfl (by kernel_rfl) rfl (by first | exact fun _ h => h | exact fun _ h => h.er 0 rfl | exact fun _ h => h.er 1 rfl | exact fun _ h => h.er 2 rfl | exact fun _ h => h.er 3 rfl | exact fun _ h => h.er 4 rfl | exact fun _ h => h.er 5 rfl | exact fun _ h => h.er 6 rfl) (y_slice_slice rfl rfl rfl 1 _ rfl rfl (by first | omega | (simp; done) | (simp; omega) | (simp at *; omega))) .free rfl ?_
    refine d_take 3 rfl (by kernel_rfl) rfl (by first | exact fun _ h => h | exact fun _ h => h.er 0 rfl | exact fun _ h => h.er 1 rfl | exact fun _ h => h.er 2 rfl | exact fun _ h => h.er 3 rfl | exact fun _ h => h.er 4 rfl | exact fun _ h => h.er 5 rfl | exact fun _ h => h.er 6 rfl) (y_assign rfl) .free rfl ?_
    refine d_take 4 rfl (by kernel_rfl) rfl (by first | exact fun _ h => h | exact fun _ h => h.er 0 rfl | exact fun _ h => h.er 1 rfl | exact fun _ h => h.er 2 rfl | exact fun _ h => h.er 3 rfl | exact fun _ h => h.er 4 rfl | exact fun _ h => h.er 5 rfl | exact fun _ h => h.er 6 rfl) (y_assign rfl) .free rfl ?_
    refine d_done (by kernel_rfl) ?_
    refine s_ret (.tmp rfl (.tmp rfl .nil)) ?_
    exact ⟨J2, _, e3, fun _ h => h, _, _, _, _, [[40, 42, 32, 105, 32, 105, 41], [105]], _, rfl, k1, k2.drop 1 (by decide), by decide, by decide, by decide, by decide, rfl⟩
  · intro c0
    refine s_seq ?_
    refine o_enter rfl ?_
    refine o_cmp rfl rfl rfl .free rfl ?_
    refine o_assign rfl .free rfl ?_
    refine o_done ?_
    first | refine s_if rfl ?_ ?_ | refine s_ifn rfl ?_ ?_ | refine s_cond rfl ?_ ?_
    · intro c1
      refine s_seq ?_
      refine o_enter rfl ?_
      refine o_move rfl .free rfl ?_
      refine o_lits rfl rfl (by rfl) (by rfl) (by rfl) (by decide) (by decide) (by rfl) .free rfl ?_
      intro b18
      refine o_freezeLit [[108, 101, 116]] (by decide) (by decide) ?_
      intro J3 e4 k3
      refine o_call rfl .free rfl (g_l3With (k1.mono e4) k3 (by decide) _) ?_
      rintro _ J4 _ e5 ⟨o1, c1, rfl, k5, rfl⟩
      refine o_move rfl .free rfl ?_
      refine o_lits rfl rfl (by rfl) (by rfl) (by rfl) (by decide) (by decide) (by rfl) .free rfl ?_
      intro b21
      refine o_freezeLit [[105]] (by decide) (by decide) ?_
      intro J6 e6 k6
      refine o_call rfl .free rfl (g_l3With (k2.mono ((e4.trans e5).trans e6)) k6 (by decide) _) ?_
      rintro _ J7 _ e7 ⟨o2, c2, rfl, k7, rfl⟩
      refine o_assign rfl .free rfl ?_
      refine o_assign rfl .free rfl ?_
      refine o_done ?_
      refine s_ret (.tmp rfl (.tmp rfl .nil)) ?_
      exact ⟨J7, _, (((e3.trans e4).trans e5).trans e6).trans e7, fun _ h => h, _, _, _, _, _, _, rfl, k5.mono (e6.trans e7), k7, by decide, by decide, by decide, by decide, rfl⟩
    · intro c1
      refine s_seq ?_
      refine o_enter rfl ?_
      refine o_cmp rfl rfl rfl .free rfl ?_
      refine o_assign rfl .free rfl ?_
      refine o_done ?_
      first | refine s_if rfl ?_ ?_ | refine s_ifn rfl ?_ ?_ | refine s_cond rfl ?_ ?_
      · intro c2
        refine s_seq ?_
        refine o_enter rfl ?_
        refine o_move rfl .free rfl ?_
        refine o_lits rfl rfl (by rfl) (by rfl) (by rfl) (by decide) (by decide) (by rfl) .free rfl ?_
        intro b26
        refine o_freezeLit [[97]] (by decide) (by decide) ?_
        intro J3 e4 k3
        refine o_call rfl .free rfl (g_l3With (k1.mono e4) k3 (by decide) _) ?_
        rintro _ J4 _ e5 ⟨o1, c1, rfl, k5, rfl⟩
        refine o_move rfl .free rfl ?_
        refine o_lits rfl rfl (by rfl) (by rfl) (by rfl) (by decide) (by decide) (by rfl) .free rfl ?_
        intro b29
        refine o_freezeLit [[40, 62, 32, 105, 32, 105, 41]] (by decide) (by decide) ?_
        intro J6 e6 k6
        refine o_call rfl .free rfl (g_l3With (k2.mono ((e4.trans e5).trans e6)) k6 (by decide) _) ?_
        rintro _ J7 _ e7 ⟨o2, c2, rfl, k7, rfl⟩
        refine o_assign rfl .free rfl ?_
        refine o_assign rfl .free rfl ?_
        refine o_done ?_
        refine s_ret (.tmp rfl (.tmp rfl .nil)) ?_
        exact ⟨J7, _, (((e3.trans e4).trans e5).trans e6).trans e7, fun _ h => h, _, _, _, _, _, _, rfl, k5.mono (e6.trans e7), k7, by decide, by decide, by decide, by decide, rfl⟩
      · intro c2
        refine s_skip ?_
        refine s_inBlock ?_
        refine s_seq ?_
        refine o_enter rfl ?_
        refine o_move rfl .free rfl ?_
        refine o_move rfl .free rfl ?_
        refine o_assign rfl .free rfl ?_
        refine o_assign rfl .free rfl ?_
        refine o_done ?_
        refine s_ret (.tmp rfl (.tmp rfl .nil)) ?_
        exact ⟨J2, _, e3, fun _ h => h, _, _, _, _, _, _, rfl, k1, k2, by decide, by decide, by decide, by decide, rfl⟩

/-- A drawn environment. -/
def DE (L : Own) : Post := fun v I' L' => ∃ o1 n1 c1 o2 n2 c2, v = .tuple #[.slice o1 (List.length n1) c1, .slice o2 (List.length n2) c2] ∧ Strs I' o1 n1 c1 ∧ Strs I' o2 n2 c2 ∧ n1.length ≤ 16 ∧ n2.length ≤ 16 ∧ (∀ s ∈ n1, s.length ≤ 16) ∧ (∀ s ∈ n2, s.length ≤ 16) ∧ L = L'
theorem g_DrawEnvValid {I : Heap} {oa : Option Addr} {l : List UInt8} {c : Nat} (h : Bytes I oa l c) (L : Own) : Fun Try.prog 4 [.slice oa l.length c] I L (DE L) := by
  refine fun_intro (by simp) ?_
  refine s_seq ?_
  refine o_enter rfl ?_
  refine o_assign rfl .free rfl ?_
  refine o_assign rfl .free rfl ?_
  refine o_done ?_
  refine s_seq ?_
  refine o_enter rfl ?_
  refine o_move rfl .free rfl ?_
  refine o_call rfl .free rfl (g_l6Open h _) ?_
  rintro _ J1 _ e1 ⟨b, oa1, l1, c1, rfl, h1, hl1, rfl⟩
  refine o_call rfl .free rfl (g_l91Env h1 hl1 b 0 (by decide) L) ?_
  rintro _ J2 _ e2 ⟨o1, n1, c1, o2, n2, c2, rfl, k1, k2, m1, m2, m3, m4, rfl⟩
  refine o_extract rfl rfl .free rfl ?_
  refine o_extract rfl rfl .free rfl ?_
  refine o_assign rfl .free rfl ?_
  refine o_assign rfl .free rfl ?_
  refine o_done ?_
  refine s_ret (.tmp rfl (.tmp rfl .nil)) ?_
  exact ⟨J2, L, e1.trans e2, fun _ h => h.drop, _, _, _, _, _, _, rfl, k1, k2, m1, m2, m3, m4, rfl⟩
def DL (L : Own) : Post := fun v I' L' => ∃ o1 n1 c1 o2 n2 c2 s, v = .tuple #[.slice o1 (List.length n1) c1, .slice o2 (List.length n2) c2, .string (str s)] ∧ Strs I' o1 n1 c1 ∧ Strs I' o2 n2 c2 ∧ n1.length ≤ 16 ∧ n2.length ≤ 16 ∧ (∀ s ∈ n1, s.length ≤ 16) ∧ (∀ s ∈ n2, s.length ≤ 16) ∧ s.length ≤ 16 ∧ L = L'
end Go.Proofs.Ythfkmfacmijbpaa
