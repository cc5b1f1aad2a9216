
/- What the readers of forms return. No conditions. -/
import Derived.Test.YtekfjhopngcneaaW2
namespace Go.Proofs.Ytekfjhopngcneaa
set_option maxRecDepth 100000
set_option linter.unusedVariables false
set_option linter.unusedSimpArgs false

theorem f_form_typed {I : Heap} {t : Tree} {cs : List Value} (h : Rep I t cs) (hz : t.size ≤ maxN) (L : Own) : Fun Try.prog 52 [.agg cs.toArray] I L (Only (.bool t.typed) I L) := by
  obtain ⟨oa, c, vs, rfl, hl, hs, hn, hc, ha, hp⟩ := h.open
  refine fun_intro (by simp) ?_
  refine s_seq ?_
  refine o_enter rfl ?_
  refine o_box rfl rfl .free rfl ?_
  intro b1
  refine o_assign rfl .free rfl ?_
  refine o_done ?_
  refine s_seq ?_
  refine o_enter rfl ?_
  refine o_load rfl (by first | exact loads_still1 (by assumption) rfl | exact loads_ownS (by first | exact m0 | exact m1 | exact m2 | exact m3 | exact m4 | exact m5 | exact m6) (by rfl) | exact loads_own1 (by first | exact m0 | exact m1 | exact m2 | exact m3 | exact m4 | exact m5 | exact m6) (by rfl) rfl | exact loads_stillS (by assumption) (by rfl) | exact loads_stillF (by assumption) (by rfl) rfl) .free rfl ?_
  refine o_call rfl .free rfl (f_form_isType _ (Nat.lt_succ_self _) h _) ?_
  rintro _ _ _ _ ⟨rfl, rfl, rfl⟩
  refine o_move rfl .free rfl ?_
  first | refine g_if rfl rfl ?_ ?_ | refine g_ifn rfl rfl ?_ ?_ | refine g_b rfl rfl ?_ ?_
  · intro g1_3
    refine o_load rfl (by first | exact loads_still1 (by assumption) rfl | exact loads_ownS (by first | exact m0 | exact m1 | exact m2 | exact m3 | exact m4 | exact m5 | exact m6) (by rfl) | exact loads_own1 (by first | exact m0 | exact m1 | exact m2 | exact m3 | exact m4 | exact m5 | exact m6) (by rfl) rfl | exact loads_stillS (by assumption) (by rfl) | exact loads_stillF (by assumption) (by rfl) rfl) (.met rfl rfl) rfl ?_
    refine o_call rfl (.met rfl rfl) rfl (f_form_size _ (Nat.lt_succ_self _) h hz _) ?_
    rintro _ _ _ _ ⟨rfl, rfl, rfl⟩
    refine o_cmp rfl rfl rfl (.met rfl rfl) rfl ?_
    refine o_pick_true rfl rfl .free rfl ?_
    refine o_assign rfl .free rfl ?_
    refine o_done ?_
    refine s_ret (.tmp rfl .nil) ?_
    refine done_only rfl (by intro _ h; first | exact h | exact dr1 h | exact dr2 h | exact dr3 h | exact dr4 h | exact dr5 h | exact dr6 h) ?_
    refine congrArg Value.bool ?_; simp only [Tree.typed]; rw [Bool.eq_iff_iff]; simp [*]; try omega
  · intro g1_3
    iterate 3 refine o_skip rfl rfl rfl ?_
    refine o_pick_false rfl rfl .free rfl ?_
    refine o_assign rfl .free rfl ?_
    refine o_done ?_
    refine s_ret (.tmp rfl .nil) ?_
    refine done_only rfl (by intro _ h; first | exact h | exact dr1 h | exact dr2 h | exact dr3 h | exact dr4 h | exact dr5 h | exact dr6 h) ?_
    refine congrArg Value.bool ?_; simp only [Tree.typed]; rw [Bool.eq_iff_iff]; simp [*]; try omega
theorem g_l1Typed {I : Heap} {t : Tree} {cs : List Value} (h : Rep I t cs) (hg : t.good = true) (hz : t.size ≤ maxN) (L : Own) : Fun Try.prog 42 [.agg cs.toArray] I L (Only (.bool t.typed) I L) := by
  obtain ⟨oa, c, vs, rfl, hl, hs, hn, hc, ha, hp⟩ := h.open
  refine fun_intro (by simp) ?_
  refine s_seq ?_
  refine o_enter rfl ?_
  refine o_box rfl rfl .free rfl ?_
  intro b1
  refine o_assign rfl .free rfl ?_
  refine o_done ?_
  refine s_seq ?_
  refine o_enter rfl ?_
  refine o_load rfl (by first | exact loads_still1 (by assumption) rfl | exact loads_ownS (by first | exact m0 | exact m1 | exact m2 | exact m3 | exact m4 | exact m5 | exact m6) (by rfl) | exact loads_own1 (by first | exact m0 | exact m1 | exact m2 | exact m3 | exact m4 | exact m5 | exact m6) (by rfl) rfl | exact loads_stillS (by assumption) (by rfl) | exact loads_stillF (by assumption) (by rfl) rfl) .free rfl ?_
  refine o_call rfl .free rfl (g_l1Type _ (Nat.lt_succ_self _) h hg _) ?_
  rintro _ _ _ _ ⟨rfl, rfl, rfl⟩
  refine o_move rfl .free rfl ?_
  first | refine g_if rfl rfl ?_ ?_ | refine g_ifn rfl rfl ?_ ?_ | refine g_b rfl rfl ?_ ?_
  · intro g1_3
    refine o_load rfl (by first | exact loads_still1 (by assumption) rfl | exact loads_ownS (by first | exact m0 | exact m1 | exact m2 | exact m3 | exact m4 | exact m5 | exact m6) (by rfl) | exact loads_own1 (by first | exact m0 | exact m1 | exact m2 | exact m3 | exact m4 | exact m5 | exact m6) (by rfl) rfl | exact loads_stillS (by assumption) (by rfl) | exact loads_stillF (by assumption) (by rfl) rfl) (.met rfl rfl) rfl ?_
    refine o_call rfl (.met rfl rfl) rfl (g_l1Size _ (Nat.lt_succ_self _) h hg hz _) ?_
    rintro _ _ _ _ ⟨rfl, rfl, rfl⟩
    refine o_cmp rfl rfl rfl (.met rfl rfl) rfl ?_
    refine o_pick_true rfl rfl .free rfl ?_
    refine o_assign rfl .free rfl ?_
    refine o_done ?_
    refine s_ret (.tmp rfl .nil) ?_
    refine done_only rfl (by intro _ h; first | exact h | exact dr1 h | exact dr2 h | exact dr3 h | exact dr4 h | exact dr5 h | exact dr6 h) ?_
    refine congrArg Value.bool ?_; simp only [Tree.typed]; rw [Bool.eq_iff_iff]; simp [*]; try omega
  · intro g1_3
    iterate 3 refine o_skip rfl rfl rfl ?_
    refine o_pick_false rfl rfl .free rfl ?_
    refine o_assign rfl .free rfl ?_
    refine o_done ?_
    refine s_ret (.tmp rfl .nil) ?_
    refine done_only rfl (by intro _ h; first | exact h | exact dr1 h | exact dr2 h | exact dr3 h | exact dr4 h | exact dr5 h | exact dr6 h) ?_
    refine congrArg Value.bool ?_; simp only [Tree.typed]; rw [Bool.eq_iff_iff]; simp [*]; try omega

/-- What 'readForm' returns. -/
def RF (k : Nat) (s : Txt) (L : Own) : Post := fun v I' L' => ∃ t cs r ok, v = .tuple #[.agg cs.toArray, .string (str r), .bool ok] ∧ Rep I' t cs ∧ L = L' ∧ r.length ≤ s.length ∧
  (match pform k s with
   | some (t0, r0) => ok = true ∧ t = t0 ∧ r = r0
   | none => ok = false)
def Link (p : Txt → Option (Tree × Txt)) (tgt : Option (Tree × Txt)) (x : PS) : Prop := match partsBy p x.n (x.s.drop 1) with
  | some (us, r) => tgt = some (.node [] (x.ts ++ us), r)
  | none => tgt = none
abbrev RFLink (k : Nat) (s : Txt) (x : PS) : Prop := Link (pform k) (pform (k + 1) s) x
def RFInv (k : Nat) (s : Txt) (I₀ : Heap) (x : PS) : Prop := HLe I₀ x.I ∧ RepL x.I x.ts x.xs ∧ BufOk 2 x.m x.c x.xs x.B ∧ x.m = x.ts.length ∧ x.s ≠ [] ∧ x.s.length ≤ x.n ∧ x.s.length ≤ s.length ∧ x.ts.length + x.s.length ≤ s.length ∧ RFLink k s x
theorem drop_pos {s : Txt} {n : Nat} (h : s.drop n ≠ []) : n < s.length := by
  rcases Nat.lt_or_ge n s.length with g | g
  · exact g
  · exact absurd (List.drop_eq_nil_of_le g) h

theorem paren_iff (s : Txt) : [40].isPrefixOf s = decide ((s.getD 0 0).toNat = 40) := by
  cases s with
  | nil => rfl
  | cons c r =>
    rw [Bool.eq_iff_iff]; simp [List.isPrefixOf]
    constructor
    · intro h; subst h; rfl
    · intro h; exact UInt8.toNat_inj.1 (by simpa using h.symm)

theorem RF_fail {k : Nat} {s : Txt} {I : Heap} {L : Own} (hf : pform k s = none) : RF k s L (.tuple #[.agg #[.string (str []), .slice none 0 0], .string (str []), .bool false]) I L :=
  ⟨.node [] [], _, [], false, rfl, Rep.empty I, rfl, by simp, by rw [hf]⟩
theorem RF_atom {k : Nat} {s : Txt} {I : Heap} {L : Own} {i : Nat} (hs : s.length ≤ 12000) (h40 : (s.getD 0 0).toNat ≠ 40) (hall : (s.take i).all abyte = true) (hi : i ≤ s.length)
    (he : i = s.length ∨ (i < s.length ∧ abyte (s.getD i 0) = false)) :
    RF k s L (.tuple #[.agg #[.string (str (s.take i)), .slice none 0 0], .string (str (s.drop i)), .bool (decide (0 < (i : Int)))]) I L := by
  obtain ⟨h1, h2⟩ := takeWhile_at hall he
  refine ⟨.node (s.take i) [], _, s.drop i, _, rfl, Rep.ofAtom (by unfold maxN; simp; omega), rfl, by simp, ?_⟩
  rw [pform_open h40, h1, h2]
  by_cases h0 : i = 0
  · subst h0; simp
  · have : s.take i ≠ [] := by
      intro e
      have := congrArg List.length e
      rw [List.length_take, List.length_nil] at this; omega
    rw [if_neg this]
    exact ⟨decide_eq_true (by omega), rfl, rfl⟩

/-- A further part is none, or what follows it is wrong. -/
theorem link_fail {p : Txt → Option (Tree × Txt)} {tgt : Option (Tree × Txt)} {x : PS} (hl : Link p tgt x) (hn : 0 < x.n)
    (h : p (x.s.drop 1) = none ∨ ∃ t r, p (x.s.drop 1) = some (t, r) ∧ (r = [] ∨ ((r.getD 0 0).toNat ≠ 41 ∧ (r.getD 0 0).toNat ≠ 32))) : tgt = none := by
  obtain ⟨m, hm⟩ : ∃ m, x.n = m + 1 := ⟨x.n - 1, by omega⟩
  unfold Link at hl
  rw [hm] at hl
  simp only [partsBy] at hl
  rcases h with h | ⟨t, r, h, h'⟩
  · rw [h] at hl; exact hl
  · rw [h] at hl
    cases r with
    | nil => exact hl
    | cons c r =>
      simp at h'
      have h1 : (c.toNat == 41) = false := by simpa using h'.1
      have h2 : (c.toNat == 32) = false := by simpa using h'.2
      simpa only [h1, h2, cond_true, cond_false] using hl
theorem link_last {p : Txt → Option (Tree × Txt)} {tgt : Option (Tree × Txt)} {x : PS} (hl : Link p tgt x) (hn : 0 < x.n) {t : Tree} {r : Txt} (h : p (x.s.drop 1) = some (t, r)) (hr : r ≠ []) (h41 : (r.getD 0 0).toNat = 41) :
    tgt = some (.node [] (x.ts ++ [t]), r.drop 1) := by
  obtain ⟨m, hm⟩ : ∃ m, x.n = m + 1 := ⟨x.n - 1, by omega⟩
  unfold Link at hl
  rw [hm] at hl
  simp only [partsBy] at hl
  cases r with
  | nil => exact absurd rfl hr
  | cons c r =>
    have h1 : (c.toNat == 41) = true := by simpa using h41
    rw [h] at hl
    simpa only [h1, cond_true, List.drop_succ_cons, List.drop_zero] using hl
theorem link_next {p : Txt → Option (Tree × Txt)} {tgt : Option (Tree × Txt)} {x : PS} (hl : Link p tgt x) (hn : 0 < x.n) {t : Tree} {r : Txt} (h : p (x.s.drop 1) = some (t, r)) (hr : r ≠ []) (h41 : (r.getD 0 0).toNat ≠ 41) (h32 : (r.getD 0 0).toNat = 32)
    {I : Heap} {B : Buf} {c m' : Nat} {xs : List Value} : Link p tgt ⟨I, r, m', x.ts ++ [t], B, c, xs, x.n - 1⟩ := by
  obtain ⟨m, hm⟩ : ∃ m, x.n = m + 1 := ⟨x.n - 1, by omega⟩
  unfold Link at hl ⊢
  rw [hm] at hl
  simp only [partsBy] at hl
  cases r with
  | nil => exact absurd rfl hr
  | cons c r =>
    have h1 : (c.toNat == 41) = false := by simpa using h41
    have h2 : (c.toNat == 32) = true := by simpa using h32
    simp only [h, h1, h2, cond_true, cond_false] at hl
    simp only [hm, Nat.add_sub_cancel, List.drop_succ_cons, List.drop_zero]
    cases hp : partsBy p m r with
    | none => rw [hp] at hl; exact hl
    | some q => rw [hp] at hl; simpa using hl

theorem f_readForm : ∀ (k : Nat) (s : Txt) (_ : s.length ≤ 12000) (deep : Nat) (_ : deep + k = 60) (I : Heap) (L : Own),
    Fun Try.prog 44 [.string (str s), .int .i64 (deep : Nat)] I L (RF k s L) := by
  intro k
  induction k with
  | zero =>
    intro s hsl deep hdeep I L
    refine fun_intro (by simp) ?_
    refine s_seq ?_
    refine o_enter rfl ?_
    refine o_alloc .free rfl ?_
    intro b4
    refine o_assign rfl .free rfl ?_
    refine o_assign rfl .free rfl ?_
    refine o_done ?_
    refine s_seq ?_
    refine s_seq ?_
    refine o_enter rfl ?_
    refine o_move rfl .free rfl ?_
    refine o_call rfl .free rfl (f_strings_HasPrefix s [40] (by unfold maxN; omega) (by simp [maxN]) _ _) ?_
    rintro _ _ _ _ ⟨rfl, rfl, rfl⟩
    rw [paren_iff]
    refine o_not rfl .free rfl ?_
    refine o_done ?_
    first | refine s_if rfl ?_ ?_ | refine s_ifn rfl ?_ ?_ | refine s_cond rfl ?_ ?_
    · intro c0
      refine s_seq ?_
      refine o_enter rfl ?_
      refine o_assign rfl .free rfl ?_
      refine o_done ?_
      refine s_seq ?_
      refine s_block ?_
      refine s_while (X := Nat) (fun i => s.length - i) (fun i => [(0, .string (str s)), (4, .pointer (some ⟨b4, 0, none⟩)), (7, .int .i64 (i : Nat))]) (fun _ => I) (fun _ => (b4, .cells [.string (str []), .slice none 0 0].toArray _ (0, 0)) :: L) (fun i => i ≤ s.length ∧ (s.take i).all abyte = true) 0 ⟨by omega, by simp⟩ ⟨rfl, rfl, rfl, trivial⟩ (by intro _ h; first | exact h | exact dr1 h | exact dr2 h | exact dr3 h | exact dr4 h | exact dr5 h | exact dr6 h) ?_
      rintro i ⟨hi, hall⟩ ih
      refine s_seq ?_
      refine s_seq ?_
      refine o_enter rfl ?_
      refine o_move rfl .free rfl ?_
      refine o_move rfl .free rfl ?_
      refine o_len_str rfl .free rfl ?_
      refine o_cmp rfl rfl rfl .free rfl ?_
      refine o_move rfl .free rfl ?_
      first | refine g_if rfl rfl ?_ ?_ | refine g_ifn rfl rfl ?_ ?_ | refine g_b rfl rfl ?_ ?_
      · intro g3_5
        refine o_move rfl (.met rfl rfl) rfl ?_
        refine o_move rfl (.met rfl rfl) rfl ?_
        refine o_index rfl rfl rfl (by first | omega | exact lt_of (by assumption) (by decide) | (simp; done) | (simp; omega) | decide | (simp at *; omega)) (.met rfl rfl) rfl ?_
        refine o_call rfl (.met rfl rfl) rfl (f_isAtomByte _ _ _) ?_
        rintro _ _ _ _ ⟨rfl, rfl, rfl⟩
        refine o_pick_true rfl rfl .free rfl ?_
        refine o_done ?_
        first | refine s_if rfl ?_ ?_ | refine s_ifn rfl ?_ ?_ | refine s_cond rfl ?_ ?_
        · intro c1
          refine s_skip ?_
          refine s_block ?_
          refine o_enter rfl ?_
          refine o_move rfl .free rfl ?_
          refine o_arith rfl rfl rfl (by omega) .free rfl ?_
          refine o_assign rfl .free rfl ?_
          refine o_done ?_
          refine s_inBlock ?_
          refine s_env (E' := [(0, .string (str s)), (4, .pointer (some ⟨b4, 0, none⟩)), (7, .int .i64 ((i + 1 : Nat)))]) ⟨rfl, rfl, rfl, trivial⟩ (ih (i + 1) ⟨by omega, take_all hall (by omega) (by assumption)⟩ (by omega))
        · intro c1
          refine s_exit rfl ?_
          refine s_seq ?_
          refine d_all 12 rfl rfl ?_
          refine d_takeA 0 rfl (by kernel_rfl) rfl (.inr heldx) (y_move rfl) .free rfl ?_
          refine d_takeA 1 rfl (by kernel_rfl) rfl (.inr heldx) (y_move rfl) .free rfl ?_
          refine d_takeA 2 rfl (by kernel_rfl) rfl (.inr heldx) (y_slice_to rfl rfl _ rfl (by first | omega | exact lt_of (by assumption) (by decide) | (simp; done) | (simp; omega) | decide | (simp at *; omega))) .free rfl ?_
          refine d_takeA 3 rfl (by kernel_rfl) rfl (.inr heldx) (y_struct rfl rfl rfl) .free rfl ?_
          refine d_takeA 4 rfl (by kernel_rfl) rfl (.inr heldx) (y_move rfl) .free rfl ?_
          refine d_takeA 5 rfl (by kernel_rfl) rfl (.inr heldx) (y_move rfl) .free rfl ?_
          refine d_takeA 6 rfl (by kernel_rfl) rfl (.inr heldx) (y_slice_from rfl rfl _ rfl (by first | omega | exact lt_of (by assumption) (by decide) | (simp; done) | (simp; omega) | decide | (simp at *; omega))) .free rfl ?_
          refine d_takeA 7 rfl (by kernel_rfl) rfl (.inr heldx) (y_move rfl) .free rfl ?_
          refine d_takeA 8 rfl (by kernel_rfl) rfl (.inr heldx) (y_cmp rfl rfl rfl) .free rfl ?_
          refine d_store 9 rfl (by kernel_rfl) rfl rfl rfl rfl rfl (by first | rfl | (simp only [List.toList_toArray, List.all_cons, List.all_nil, plainCell_buf, Bool.and_true, Bool.true_and] <;> rfl)) (by first | exact u0 | exact u1 | exact u2 | exact u3 | exact u4 | exact u5 | exact u6) (by rfl) .free (.inl (by kernel_rfl)) ?_
          refine d_takeA 10 rfl (by kernel_rfl) rfl (.inl (by kernel_rfl)) (y_assign rfl) .free rfl ?_
          refine d_takeA 11 rfl (by kernel_rfl) rfl (.inl (by kernel_rfl)) (y_assign rfl) .free rfl ?_
          refine d_done (by kernel_rfl) ?_
          refine s_ret (.cell rfl (by first | exact loads_still1 (by assumption) rfl | exact loads_ownS (by first | exact m0 | exact m1 | exact m2 | exact m3 | exact m4 | exact m5 | exact m6) (by rfl) | exact loads_own1 (by first | exact m0 | exact m1 | exact m2 | exact m3 | exact m4 | exact m5 | exact m6) (by rfl) rfl | exact loads_stillS (by assumption) (by rfl) | exact loads_stillF (by assumption) (by rfl) rfl) (.tmp rfl (.tmp rfl .nil))) ?_
          exact ⟨I, L, .refl _, fun _ h => h.drop, RF_atom hsl c0 hall hi (by first | exact .inl (by omega) | exact .inr ⟨by omega, by assumption⟩)⟩
      · intro g3_5
        iterate 4 refine o_skip rfl rfl rfl ?_
        refine o_pick_false rfl rfl .free rfl ?_
        refine o_done ?_
        refine s_false rfl ?_
        refine s_exit rfl ?_
        refine s_seq ?_
        refine d_all 12 rfl rfl ?_
        refine d_takeA 0 rfl (by kernel_rfl) rfl (.inr heldx) (y_move rfl) .free rfl ?_
        refine d_takeA 1 rfl (by kernel_rfl) rfl (.inr heldx) (y_move rfl) .free rfl ?_
        refine d_takeA 2 rfl (by kernel_rfl) rfl (.inr heldx) (y_slice_to rfl rfl _ rfl (by first | omega | exact lt_of (by assumption) (by decide) | (simp; done) | (simp; omega) | decide | (simp at *; omega))) .free rfl ?_
        refine d_takeA 3 rfl (by kernel_rfl) rfl (.inr heldx) (y_struct rfl rfl rfl) .free rfl ?_
        refine d_takeA 4 rfl (by kernel_rfl) rfl (.inr heldx) (y_move rfl) .free rfl ?_
        refine d_takeA 5 rfl (by kernel_rfl) rfl (.inr heldx) (y_move rfl) .free rfl ?_
        refine d_takeA 6 rfl (by kernel_rfl) rfl (.inr heldx) (y_slice_from rfl rfl _ rfl (by first | omega | exact lt_of (by assumption) (by decide) | (simp; done) | (simp; omega) | decide | (simp at *; omega))) .free rfl ?_
        refine d_takeA 7 rfl (by kernel_rfl) rfl (.inr heldx) (y_move rfl) .free rfl ?_
        refine d_takeA 8 rfl (by kernel_rfl) rfl (.inr heldx) (y_cmp rfl rfl rfl) .free rfl ?_
        refine d_store 9 rfl (by kernel_rfl) rfl rfl rfl rfl rfl (by first | rfl | (simp only [List.toList_toArray, List.all_cons, List.all_nil, plainCell_buf, Bool.and_true, Bool.true_and] <;> rfl)) (by first | exact u0 | exact u1 | exact u2 | exact u3 | exact u4 | exact u5 | exact u6) (by rfl) .free (.inl (by kernel_rfl)) ?_
        refine d_takeA 10 rfl (by kernel_rfl) rfl (.inl (by kernel_rfl)) (y_assign rfl) .free rfl ?_
        refine d_takeA 11 rfl (by kernel_rfl) rfl (.inl (by kernel_rfl)) (y_assign rfl) .free rfl ?_
        refine d_done (by kernel_rfl) ?_
        refine s_ret (.cell rfl (by first | exact loads_still1 (by assumption) rfl | exact loads_ownS (by first | exact m0 | exact m1 | exact m2 | exact m3 | exact m4 | exact m5 | exact m6) (by rfl) | exact loads_own1 (by first | exact m0 | exact m1 | exact m2 | exact m3 | exact m4 | exact m5 | exact m6) (by rfl) rfl | exact loads_stillS (by assumption) (by rfl) | exact loads_stillF (by assumption) (by rfl) rfl) (.tmp rfl (.tmp rfl .nil))) ?_
        exact ⟨I, L, .refl _, fun _ h => h.drop, RF_atom hsl c0 hall hi (by first | exact .inl (by omega) | exact .inr ⟨by omega, by assumption⟩)⟩
    · intro c0
      refine s_skip ?_
      refine s_seq ?_
      refine s_seq ?_
      refine o_enter rfl ?_
      refine o_move rfl .free rfl ?_
      refine o_cmp rfl rfl rfl .free rfl ?_
      refine o_done ?_
      first | refine s_tp rfl (by omega) ?_ | refine s_tn rfl (by omega) ?_ | refine s_true (by simp [look, opd, *]) ?_
      refine s_seq ?_
      refine o_enter rfl ?_
      refine o_struct rfl rfl rfl .free rfl ?_
      refine o_store rfl rfl rfl rfl (by first | rfl | (simp only [List.toList_toArray, List.all_cons, List.all_nil, plainCell_buf, Bool.and_true, Bool.true_and] <;> rfl)) (by first | exact u0 | exact u1 | exact u2 | exact u3 | exact u4 | exact u5 | exact u6) (by rfl) .free ?_
      refine o_assign rfl .free rfl ?_
      refine o_assign rfl .free rfl ?_
      refine o_done ?_
      refine s_ret (.cell rfl (by first | exact loads_still1 (by assumption) rfl | exact loads_ownS (by first | exact m0 | exact m1 | exact m2 | exact m3 | exact m4 | exact m5 | exact m6) (by rfl) | exact loads_own1 (by first | exact m0 | exact m1 | exact m2 | exact m3 | exact m4 | exact m5 | exact m6) (by rfl) rfl | exact loads_stillS (by assumption) (by rfl) | exact loads_stillF (by assumption) (by rfl) rfl) (.tmp rfl (.tmp rfl .nil))) ?_
      exact ⟨I, L, .refl _, fun _ h => h.drop, RF_fail (pform_zero c0)⟩
  | succ k ihk =>
    intro s hsl deep hdeep I L
    refine fun_intro (by simp) ?_
    refine s_seq ?_
    refine o_enter rfl ?_
    refine o_alloc .free rfl ?_
    intro b4
    refine o_assign rfl .free rfl ?_
    refine o_assign rfl .free rfl ?_
    refine o_done ?_
    refine s_seq ?_
    refine s_seq ?_
    refine o_enter rfl ?_
    refine o_move rfl .free rfl ?_
    refine o_call rfl .free rfl (f_strings_HasPrefix s [40] (by unfold maxN; omega) (by simp [maxN]) _ _) ?_
    rintro _ _ _ _ ⟨rfl, rfl, rfl⟩
    rw [paren_iff]
    refine o_not rfl .free rfl ?_
    refine o_done ?_
    first | refine s_if rfl ?_ ?_ | refine s_ifn rfl ?_ ?_ | refine s_cond rfl ?_ ?_
    · intro c0
      refine s_seq ?_
      refine o_enter rfl ?_
      refine o_assign rfl .free rfl ?_
      refine o_done ?_
      refine s_seq ?_
      refine s_block ?_
      refine s_while (X := Nat) (fun i => s.length - i) (fun i => [(0, .string (str s)), (4, .pointer (some ⟨b4, 0, none⟩)), (7, .int .i64 (i : Nat))]) (fun _ => I) (fun _ => (b4, .cells [.string (str []), .slice none 0 0].toArray _ (0, 0)) :: L) (fun i => i ≤ s.length ∧ (s.take i).all abyte = true) 0 ⟨by omega, by simp⟩ ⟨rfl, rfl, rfl, trivial⟩ (by intro _ h; first | exact h | exact dr1 h | exact dr2 h | exact dr3 h | exact dr4 h | exact dr5 h | exact dr6 h) ?_
      rintro i ⟨hi, hall⟩ ih
      refine s_seq ?_
      refine s_seq ?_
      refine o_enter rfl ?_
      refine o_move rfl .free rfl ?_
      refine o_move rfl .free rfl ?_
      refine o_len_str rfl .free rfl ?_
      refine o_cmp rfl rfl rfl .free rfl ?_
      refine o_move rfl .free rfl ?_
      first | refine g_if rfl rfl ?_ ?_ | refine g_ifn rfl rfl ?_ ?_ | refine g_b rfl rfl ?_ ?_
      · intro g3_5
        refine o_move rfl (.met rfl rfl) rfl ?_
        refine o_move rfl (.met rfl rfl) rfl ?_
        refine o_index rfl rfl rfl (by first | omega | exact lt_of (by assumption) (by decide) | (simp; done) | (simp; omega) | decide | (simp at *; omega)) (.met rfl rfl) rfl ?_
        refine o_call rfl (.met rfl rfl) rfl (f_isAtomByte _ _ _) ?_
        rintro _ _ _ _ ⟨rfl, rfl, rfl⟩
        refine o_pick_true rfl rfl .free rfl ?_
        refine o_done ?_
        first | refine s_if rfl ?_ ?_ | refine s_ifn rfl ?_ ?_ | refine s_cond rfl ?_ ?_
        · intro c1
          refine s_skip ?_
          refine s_block ?_
          refine o_enter rfl ?_
          refine o_move rfl .free rfl ?_
          refine o_arith rfl rfl rfl (by omega) .free rfl ?_
          refine o_assign rfl .free rfl ?_
          refine o_done ?_
          refine s_inBlock ?_
          refine s_env (E' := [(0, .string (str s)), (4, .pointer (some ⟨b4, 0, none⟩)), (7, .int .i64 ((i + 1 : Nat)))]) ⟨rfl, rfl, rfl, trivial⟩ (ih (i + 1) ⟨by omega, take_all hall (by omega) (by assumption)⟩ (by omega))
        · intro c1
          refine s_exit rfl ?_
          refine s_seq ?_
          refine d_all 12 rfl rfl ?_
          refine d_takeA 0 rfl (by kernel_rfl) rfl (.inr heldx) (y_move rfl) .free rfl ?_
          refine d_takeA 1 rfl (by kernel_rfl) rfl (.inr heldx) (y_move rfl) .free rfl ?_
          refine d_takeA 2 rfl (by kernel_rfl) rfl (.inr heldx) (y_slice_to rfl rfl _ rfl (by first | omega | exact lt_of (by assumption) (by decide) | (simp; done) | (simp; omega) | decide | (simp at *; omega))) .free rfl ?_
          refine d_takeA 3 rfl (by kernel_rfl) rfl (.inr heldx) (y_struct rfl rfl rfl) .free rfl ?_
          refine d_takeA 4 rfl (by kernel_rfl) rfl (.inr heldx) (y_move rfl) .free rfl ?_
          refine d_takeA 5 rfl (by kernel_rfl) rfl (.inr heldx) (y_move rfl) .free rfl ?_
          refine d_takeA 6 rfl (by kernel_rfl) rfl (.inr heldx) (y_slice_from rfl rfl _ rfl (by first | omega | exact lt_of (by assumption) (by decide) | (simp; done) | (simp; omega) | decide | (simp at *; omega))) .free rfl ?_
          refine d_takeA 7 rfl (by kernel_rfl) rfl (.inr heldx) (y_move rfl) .free rfl ?_
          refine d_takeA 8 rfl (by kernel_rfl) rfl (.inr heldx) (y_cmp rfl rfl rfl) .free rfl ?_
          refine d_store 9 rfl (by kernel_rfl) rfl rfl rfl rfl rfl (by first | rfl | (simp only [List.toList_toArray, List.all_cons, List.all_nil, plainCell_buf, Bool.and_true, Bool.true_and] <;> rfl)) (by first | exact u0 | exact u1 | exact u2 | exact u3 | exact u4 | exact u5 | exact u6) (by rfl) .free (.inl (by kernel_rfl)) ?_
          refine d_takeA 10 rfl (by kernel_rfl) rfl (.inl (by kernel_rfl)) (y_assign rfl) .free rfl ?_
          refine d_takeA 11 rfl (by kernel_rfl) rfl (.inl (by kernel_rfl)) (y_assign rfl) .free rfl ?_
          refine d_done (by kernel_rfl) ?_
          refine s_ret (.cell rfl (by first | exact loads_still1 (by assumption) rfl | exact loads_ownS (by first | exact m0 | exact m1 | exact m2 | exact m3 | exact m4 | exact m5 | exact m6) (by rfl) | exact loads_own1 (by first | exact m0 | exact m1 | exact m2 | exact m3 | exact m4 | exact m5 | exact m6) (by rfl) rfl | exact loads_stillS (by assumption) (by rfl) | exact loads_stillF (by assumption) (by rfl) rfl) (.tmp rfl (.tmp rfl .nil))) ?_
          exact ⟨I, L, .refl _, fun _ h => h.drop, RF_atom hsl c0 hall hi (by first | exact .inl (by omega) | exact .inr ⟨by omega, by assumption⟩)⟩
      · intro g3_5
        iterate 4 refine o_skip rfl rfl rfl ?_
        refine o_pick_false rfl rfl .free rfl ?_
        refine o_done ?_
        refine s_false rfl ?_
        refine s_exit rfl ?_
        refine s_seq ?_
        refine d_all 12 rfl rfl ?_
        refine d_takeA 0 rfl (by kernel_rfl) rfl (.inr heldx) (y_move rfl) .free rfl ?_
        refine d_takeA 1 rfl (by kernel_rfl) rfl (.inr heldx) (y_move rfl) .free rfl ?_
        refine d_takeA 2 rfl (by kernel_rfl) rfl (.inr heldx) (y_slice_to rfl rfl _ rfl (by first | omega | exact lt_of (by assumption) (by decide) | (simp; done) | (simp; omega) | decide | (simp at *; omega))) .free rfl ?_
        refine d_takeA 3 rfl (by kernel_rfl) rfl (.inr heldx) (y_struct rfl rfl rfl) .free rfl ?_
        refine d_takeA 4 rfl (by kernel_rfl) rfl (.inr heldx) (y_move rfl) .free rfl ?_
        refine d_takeA 5 rfl (by kernel_rfl) rfl (.inr heldx) (y_move rfl) .free rfl ?_
        refine d_takeA 6 rfl (by kernel_rfl) rfl (.inr heldx) (y_slice_from rfl rfl _ rfl (by first | omega | exact lt_of (by assumption) (by decide) | (simp; done) | (simp; omega) | decide | (simp at *; omega))) .free rfl ?_
        refine d_takeA 7 rfl (by kernel_rfl) rfl (.inr heldx) (y_move rfl) .free rfl ?_
        refine d_takeA 8 rfl (by kernel_rfl) rfl (.inr heldx) (y_cmp rfl rfl rfl) .free rfl ?_
        refine d_store 9 rfl (by kernel_rfl) rfl rfl rfl rfl rfl (by first | rfl | (simp only [List.toList_toArray, List.all_cons, List.all_nil, plainCell_buf, Bool.and_true, Bool.true_and] <;> rfl)) (by first | exact u0 | exact u1 | exact u2 | exact u3 | exact u4 | exact u5 | exact u6) (by rfl) .free (.inl (by kernel_rfl)) ?_
        refine d_takeA 10 rfl (by kernel_rfl) rfl (.inl (by kernel_rfl)) (y_assign rfl) .free rfl ?_
        refine d_takeA 11 rfl (by kernel_rfl) rfl (.inl (by kernel_rfl)) (y_assign rfl) .free rfl ?_
        refine d_done (by kernel_rfl) ?_
        refine s_ret (.cell rfl (by first | exact loads_still1 (by assumption) rfl | exact loads_ownS (by first | exact m0 | exact m1 | exact m2 | exact m3 | exact m4 | exact m5 | exact m6) (by rfl) | exact loads_own1 (by first | exact m0 | exact m1 | exact m2 | exact m3 | exact m4 | exact m5 | exact m6) (by rfl) rfl | exact loads_stillS (by assumption) (by rfl) | exact loads_stillF (by assumption) (by rfl) rfl) (.tmp rfl (.tmp rfl .nil))) ?_
        exact ⟨I, L, .refl _, fun _ h => h.drop, RF_atom hsl c0 hall hi (by first | exact .inl (by omega) | exact .inr ⟨by omega, by assumption⟩)⟩
    · intro c0
      refine s_skip ?_
      refine s_seq ?_
      refine s_seq ?_
      refine o_enter rfl ?_
      refine o_move rfl .free rfl ?_
      refine o_cmp rfl rfl rfl .free rfl ?_
      refine o_done ?_
      first | refine s_fp rfl (by omega) ?_ | refine s_fn rfl (by omega) ?_ | refine s_false (by simp [look, opd, *]) ?_
      refine s_skip ?_
      refine s_seq ?_
      refine o_enter rfl ?_
      refine o_alloc .free rfl ?_
      intro b8
      refine o_done ?_
      refine s_block ?_
      have hne : s ≠ [] := by
        intro e; subst e; simp at c0
      have hpos : 0 < s.length := List.length_pos_iff.2 hne
      refine s_while (X := PS) (fun x => x.s.length) (fun x => [(0, .string (str x.s)), (1, .int .i64 (deep : Nat)), (4, .pointer (some ⟨b4, 0, none⟩)), (8, .pointer (some ⟨b8, 0, none⟩))]) (fun x => x.I)
        (fun x => (b8, .cells [.string (str []), bufVal x.m x.c x.B].toArray 35 (0, 0)) :: (b4, .cells [.string (str []), .slice none 0 0].toArray 35 (0, 0)) :: (bufOwn 35 x.xs x.B ++ L)) (RFInv k s I) ⟨I, s, 0, [], none, 0, [], s.length⟩
        ⟨.refl _, .nil, ⟨rfl, rfl, rfl⟩, rfl, hne, Nat.le_refl _, Nat.le_refl _, by simp, by
          have := pform_paren (k := k) c0
          unfold RFLink Link
          split <;> simp_all⟩ ⟨rfl, rfl, rfl, rfl, trivial⟩ (fun _ h => h) ?_
      rintro x ⟨hle, hrl, hB, hxm, hxne, hxn, hxs, hxt, hlink⟩ ih
      have hxpos : 0 < x.s.length := List.length_pos_iff.2 hxne
      refine s_block ?_
      refine s_seq ?_
      refine o_enter rfl ?_
      refine o_move rfl .free rfl ?_
      refine o_slice_from rfl rfl 1 rfl (by first | omega | exact lt_of (by assumption) (by decide) | (simp; done) | (simp; omega) | decide | (simp at *; omega)) .free rfl ?_
      refine o_move rfl .free rfl ?_
      refine o_arith rfl rfl rfl (by omega) .free rfl ?_
      refine o_call rfl .free rfl (ihk (x.s.drop 1) (by simp; omega) (deep + 1) (by omega) _ _) ?_
      rintro _ J _ hleJ ⟨t, cs, r, ok, rfl, hrep, rfl, hrlen, hpf⟩
      obtain ⟨oa, cc, vs, rfl, -⟩ := hrep.open
      simp only [List.length_drop] at hrlen
      refine o_move rfl .free rfl ?_
      iterate 3 refine o_extract rfl rfl .free rfl ?_
      refine o_alloc .free rfl ?_
      intro b9
      refine o_store rfl rfl rfl rfl (by first | rfl | (simp only [List.toList_toArray, List.all_cons, List.all_nil, plainCell_buf, Bool.and_true, Bool.true_and] <;> rfl)) (by first | exact u0 | exact u1 | exact u2 | exact u3 | exact u4 | exact u5 | exact u6) (by rfl) .free ?_
      refine o_assign rfl .free rfl ?_
      refine o_assign rfl .free rfl ?_
      refine o_done ?_
      refine s_seq ?_
      refine s_seq ?_
      refine o_enter rfl ?_
      refine o_move rfl .free rfl ?_
      refine o_not rfl .free rfl ?_
      refine o_move rfl .free rfl ?_
      first | refine g_if rfl rfl ?_ ?_ | refine g_ifn rfl rfl ?_ ?_ | refine g_b rfl rfl ?_ ?_
      · intro g10_3
        refine o_skip rfl rfl rfl ?_
        refine o_skip rfl rfl rfl ?_
        refine o_pick_true rfl rfl .free rfl ?_
        refine o_move rfl .free rfl ?_
        iterate 4 refine o_skip rfl rfl rfl ?_
        iterate 3 refine o_skipu rfl rfl rfl ?_
        refine o_skip rfl rfl rfl ?_
        refine o_pick_true rfl rfl .free rfl ?_
        refine o_done ?_
        refine s_true rfl ?_
        refine s_seq ?_
        refine o_enter rfl ?_
        refine o_struct rfl rfl rfl .free rfl ?_
        refine o_store rfl rfl rfl rfl (by first | rfl | (simp only [List.toList_toArray, List.all_cons, List.all_nil, plainCell_buf, Bool.and_true, Bool.true_and] <;> rfl)) (by first | exact u0 | exact u1 | exact u2 | exact u3 | exact u4 | exact u5 | exact u6) (by rfl) .free ?_
        refine o_assign rfl .free rfl ?_
        refine o_assign rfl .free rfl ?_
        refine o_done ?_
        refine s_ret (.cell rfl (by first | exact loads_still1 (by assumption) rfl | exact loads_ownS (by first | exact m0 | exact m1 | exact m2 | exact m3 | exact m4 | exact m5 | exact m6) (by rfl) | exact loads_own1 (by first | exact m0 | exact m1 | exact m2 | exact m3 | exact m4 | exact m5 | exact m6) (by rfl) rfl | exact loads_stillS (by assumption) (by rfl) | exact loads_stillF (by assumption) (by rfl) rfl) (.tmp rfl (.tmp rfl .nil))) ?_
        refine ⟨J, L, hle.trans hleJ, fun w h => (h.drop.drop.drop).sub (List.sublist_append_right _ _), RF_fail (link_fail hlink (by omega) ?_)⟩
        · cases hp : pform k (x.s.drop 1) with
          | none => exact .inl rfl
          | some p =>
            rw [hp] at hpf
            obtain ⟨rfl, rfl, rfl⟩ := hpf
            refine .inr ⟨_, _, rfl, ?_⟩
            first
              | exact .inl (by assumption)
              | exact .inr ⟨by omega, by omega⟩
              | (exfalso; simp_all; done)
      · intro g10_3
        refine o_move rfl (.met rfl rfl) rfl ?_
        refine o_cmps rfl rfl rfl (.met rfl rfl) rfl ?_
        refine o_pick_false rfl rfl .free rfl ?_
        refine o_move rfl .free rfl ?_
        first | refine g_if rfl rfl ?_ ?_ | refine g_ifn rfl rfl ?_ ?_ | refine g_b rfl rfl ?_ ?_
        · intro g10_7
          iterate 4 refine o_skip rfl rfl rfl ?_
          iterate 3 refine o_skipu rfl rfl rfl ?_
          refine o_skip rfl rfl rfl ?_
          refine o_pick_true rfl rfl .free rfl ?_
          refine o_done ?_
          refine s_true rfl ?_
          refine s_seq ?_
          refine o_enter rfl ?_
          refine o_struct rfl rfl rfl .free rfl ?_
          refine o_store rfl rfl rfl rfl (by first | rfl | (simp only [List.toList_toArray, List.all_cons, List.all_nil, plainCell_buf, Bool.and_true, Bool.true_and] <;> rfl)) (by first | exact u0 | exact u1 | exact u2 | exact u3 | exact u4 | exact u5 | exact u6) (by rfl) .free ?_
          refine o_assign rfl .free rfl ?_
          refine o_assign rfl .free rfl ?_
          refine o_done ?_
          refine s_ret (.cell rfl (by first | exact loads_still1 (by assumption) rfl | exact loads_ownS (by first | exact m0 | exact m1 | exact m2 | exact m3 | exact m4 | exact m5 | exact m6) (by rfl) | exact loads_own1 (by first | exact m0 | exact m1 | exact m2 | exact m3 | exact m4 | exact m5 | exact m6) (by rfl) rfl | exact loads_stillS (by assumption) (by rfl) | exact loads_stillF (by assumption) (by rfl) rfl) (.tmp rfl (.tmp rfl .nil))) ?_
          refine ⟨J, L, hle.trans hleJ, fun w h => (h.drop.drop.drop).sub (List.sublist_append_right _ _), RF_fail (link_fail hlink (by omega) ?_)⟩
          · cases hp : pform k (x.s.drop 1) with
            | none => exact .inl rfl
            | some p =>
              rw [hp] at hpf
              obtain ⟨rfl, rfl, rfl⟩ := hpf
              refine .inr ⟨_, _, rfl, ?_⟩
              first
                | exact .inl (by assumption)
                | exact .inr ⟨by omega, by omega⟩
                | (exfalso; simp_all; done)
        · intro g10_7
          refine o_move rfl (.met rfl rfl) rfl ?_
          refine o_index (i := 0) rfl rfl rfl (List.length_pos_iff.2 (by assumption)) (.met rfl rfl) rfl ?_
          refine o_cmp rfl rfl rfl (.met rfl rfl) rfl ?_
          refine o_move rfl (.met rfl rfl) rfl ?_
          first | refine g_if rfl rfl ?_ ?_ | refine g_ifn rfl rfl ?_ ?_ | refine g_b rfl rfl ?_ ?_
          · intro g10_11
            refine o_move rfl (.met rfl rfl) rfl ?_
            refine o_index (i := 0) rfl rfl rfl (List.length_pos_iff.2 (by assumption)) (.met rfl rfl) rfl ?_
            refine o_cmp rfl rfl rfl (.met rfl rfl) rfl ?_
            refine o_pick_true rfl rfl (.met rfl rfl) rfl ?_
            refine o_pick_false rfl rfl .free rfl ?_
            refine o_done ?_
            first | refine s_if rfl ?_ ?_ | refine s_ifn rfl ?_ ?_ | refine s_cond rfl ?_ ?_
            · intro c3
              refine s_seq ?_
              refine o_enter rfl ?_
              refine o_struct rfl rfl rfl .free rfl ?_
              refine o_store rfl rfl rfl rfl (by first | rfl | (simp only [List.toList_toArray, List.all_cons, List.all_nil, plainCell_buf, Bool.and_true, Bool.true_and] <;> rfl)) (by first | exact u0 | exact u1 | exact u2 | exact u3 | exact u4 | exact u5 | exact u6) (by rfl) .free ?_
              refine o_assign rfl .free rfl ?_
              refine o_assign rfl .free rfl ?_
              refine o_done ?_
              refine s_ret (.cell rfl (by first | exact loads_still1 (by assumption) rfl | exact loads_ownS (by first | exact m0 | exact m1 | exact m2 | exact m3 | exact m4 | exact m5 | exact m6) (by rfl) | exact loads_own1 (by first | exact m0 | exact m1 | exact m2 | exact m3 | exact m4 | exact m5 | exact m6) (by rfl) rfl | exact loads_stillS (by assumption) (by rfl) | exact loads_stillF (by assumption) (by rfl) rfl) (.tmp rfl (.tmp rfl .nil))) ?_
              refine ⟨J, L, hle.trans hleJ, fun w h => (h.drop.drop.drop).sub (List.sublist_append_right _ _), RF_fail (link_fail hlink (by omega) ?_)⟩
              · cases hp : pform k (x.s.drop 1) with
                | none => exact .inl rfl
                | some p =>
                  rw [hp] at hpf
                  obtain ⟨rfl, rfl, rfl⟩ := hpf
                  refine .inr ⟨_, _, rfl, ?_⟩
                  first
                    | exact .inl (by assumption)
                    | exact .inr ⟨by omega, by omega⟩
                    | (exfalso; simp_all; done)
            · intro c3
              refine s_skip ?_
              refine s_seq ?_
              refine o_enter rfl ?_
              first | refine o_fieldAddr rfl .free rfl ?_ | refine o_fieldAddr' rfl .free rfl ?_
              refine o_load rfl (by first | exact loads_still1 (by assumption) rfl | exact loads_ownS (by first | exact m0 | exact m1 | exact m2 | exact m3 | exact m4 | exact m5 | exact m6) (by rfl) | exact loads_own1 (by first | exact m0 | exact m1 | exact m2 | exact m3 | exact m4 | exact m5 | exact m6) (by rfl) rfl | exact loads_stillS (by assumption) (by rfl) | exact loads_stillF (by assumption) (by rfl) rfl) .free rfl ?_
              refine o_load rfl (by first | exact loads_still1 (by assumption) rfl | exact loads_ownS (by first | exact m0 | exact m1 | exact m2 | exact m3 | exact m4 | exact m5 | exact m6) (by rfl) | exact loads_own1 (by first | exact m0 | exact m1 | exact m2 | exact m3 | exact m4 | exact m5 | exact m6) (by rfl) rfl | exact loads_stillS (by assumption) (by rfl) | exact loads_stillF (by assumption) (by rfl) rfl) .free rfl ?_
              refine o_lits rfl rfl (by rfl) (by rfl) (by rfl) (by decide) (by decide) (by rfl) .free rfl ?_
              intro b68
              refine o_append (B := x.B) (xs := x.xs) (ys := [.string (str t.atom), .slice oa t.parts.length cc]) (m := x.m) (c := x.c) (by intro kk; simp) (by rfl) rfl rfl hB (fun _ h => h.u4) (by rfl) (fun a ha => by cases ha; exact reads_ownL (.head _) (by rfl)) (by simp) (by rfl) (by decide) (by decide) (by omega) (by decide) .free rfl ?_
              intro bb sp c' hB'
              first | refine o_fieldAddr rfl .free rfl ?_ | refine o_fieldAddr' rfl .free rfl ?_
              refine o_store rfl rfl rfl rfl (by first | rfl | (simp only [List.toList_toArray, List.all_cons, List.all_nil, plainCell_buf, Bool.and_true, Bool.true_and] <;> rfl)) (by first | exact u0 | exact u1 | exact u2 | exact u3 | exact u4 | exact u5 | exact u6) (by rfl) .free ?_
              have hpf' : pform k (x.s.drop 1) = some (t, r) := by
                cases hp : pform k (x.s.drop 1) with
                | none => rw [hp] at hpf; simp [hpf] at *
                | some p =>
                  rw [hp] at hpf
                  obtain ⟨rfl, rfl, rfl⟩ := hpf
                  rfl
              have hrl' : RepL J (x.ts ++ [t]) (x.xs ++ [Value.string (str t.atom), Value.slice oa t.parts.length cc]) := (hrl.mono hleJ).append (.cons hrep .nil)
              have hlen' : x.m + 1 = (x.ts ++ [t]).length := by simp [hxm]
              refine o_done ?_
              refine s_seq ?_
              refine o_enter rfl ?_
              refine o_move rfl .free rfl ?_
              refine o_assign rfl .free rfl ?_
              refine o_done ?_
              refine s_seq ?_
              refine o_enter rfl ?_
              refine o_move rfl .free rfl ?_
              refine o_index (i := 0) rfl rfl rfl (List.length_pos_iff.2 (by assumption)) .free rfl ?_
              refine o_cmp rfl rfl rfl .free rfl ?_
              refine o_done ?_
              first | refine s_if rfl ?_ ?_ | refine s_ifn rfl ?_ ?_ | refine s_cond rfl ?_ ?_
              · intro c4
                refine s_seq ?_
                refine s_freeze ?_
                intro hfz
                refine d_all 6 rfl rfl ?_
                refine d_take 0 [3] rfl (by kernel_rfl) rfl heldx (y_load rfl (by first | exact loads_still1 (by assumption) rfl | exact loads_ownS (by first | exact m0 | exact m1 | exact m2 | exact m3 | exact m4 | exact m5 | exact m6) (by rfl) | exact loads_own1 (by first | exact m0 | exact m1 | exact m2 | exact m3 | exact m4 | exact m5 | exact m6) (by rfl) rfl | exact loads_stillS (by assumption) (by rfl) | exact loads_stillF (by assumption) (by rfl) rfl)) .free rfl ?_
                refine d_takeA 1 rfl (by kernel_rfl) rfl (.inr heldx) (y_move rfl) .free rfl ?_
                refine d_takeA 2 rfl (by kernel_rfl) rfl (.inr heldx) (y_slice_from rfl rfl 1 rfl (List.length_pos_iff.2 (by assumption))) .free rfl ?_
                refine d_store 3 rfl (by kernel_rfl) rfl rfl rfl rfl rfl (by first | rfl | (simp only [List.toList_toArray, List.all_cons, List.all_nil, plainCell_buf, Bool.and_true, Bool.true_and] <;> rfl)) (by first | exact u0 | exact u1 | exact u2 | exact u3 | exact u4 | exact u5 | exact u6) (by rfl) .free (.inl (by kernel_rfl)) ?_
                refine d_takeA 4 rfl (by kernel_rfl) rfl (.inl (by kernel_rfl)) (y_assign rfl) .free rfl ?_
                refine d_takeA 5 rfl (by kernel_rfl) rfl (.inl (by kernel_rfl)) (y_assign rfl) .free rfl ?_
                refine d_done (by kernel_rfl) ?_
                refine s_ret (.cell rfl (by first | exact loads_still1 (by assumption) rfl | exact loads_ownS (by first | exact m0 | exact m1 | exact m2 | exact m3 | exact m4 | exact m5 | exact m6) (by rfl) | exact loads_own1 (by first | exact m0 | exact m1 | exact m2 | exact m3 | exact m4 | exact m5 | exact m6) (by rfl) rfl | exact loads_stillS (by assumption) (by rfl) | exact loads_stillF (by assumption) (by rfl) rfl) (.tmp rfl (.tmp rfl .nil))) ?_
                refine ⟨_, L, (hle.trans hleJ).trans hfz, fun _ h => h.drop.drop.drop.drop, .node [] (x.ts ++ [t]), _, r.drop 1, true, rfl, .mk' hlen' (hrl'.mono hfz) (fun y hy => by cases hy; exact still_set) (by simp) hB'.2.1 (by simp [maxN]) (by unfold maxN; omega), rfl, by simp; omega, ?_⟩
                rw [link_last hlink (by omega) hpf' (by assumption) (by omega)]; exact ⟨rfl, rfl, rfl⟩
              · intro c4
                refine s_skip ?_
                refine s_inBlock ?_
                refine s_mem (fun w h => Mem.sub (L' := (b8, _) :: (b4, _) :: (bb, _) :: L) (by repeat (first | exact List.Sublist.refl _ | apply List.Sublist.cons_cons | apply List.Sublist.cons)) h.f4.f4) (s_env ?_ (ih ⟨J, r, x.m + 1, x.ts ++ [t], some (bb, sp), c', _, x.n - 1⟩ ⟨hle.trans hleJ, hrl', hB', hlen', by assumption, by simp; omega, by simp; omega, by simp; omega, link_next hlink (by omega) hpf' (by assumption) (by omega) (by omega)⟩ (by simp; omega)))
                exact ⟨rfl, rfl, rfl, rfl, trivial⟩
          · intro g10_11
            iterate 3 refine o_skip rfl rfl rfl ?_
            refine o_pick_false rfl rfl (.met rfl rfl) rfl ?_
            refine o_pick_false rfl rfl .free rfl ?_
            refine o_done ?_
            refine s_false rfl ?_
            refine s_skip ?_
            refine s_seq ?_
            refine o_enter rfl ?_
            first | refine o_fieldAddr rfl .free rfl ?_ | refine o_fieldAddr' rfl .free rfl ?_
            refine o_load rfl (by first | exact loads_still1 (by assumption) rfl | exact loads_ownS (by first | exact m0 | exact m1 | exact m2 | exact m3 | exact m4 | exact m5 | exact m6) (by rfl) | exact loads_own1 (by first | exact m0 | exact m1 | exact m2 | exact m3 | exact m4 | exact m5 | exact m6) (by rfl) rfl | exact loads_stillS (by assumption) (by rfl) | exact loads_stillF (by assumption) (by rfl) rfl) .free rfl ?_
            refine o_load rfl (by first | exact loads_still1 (by assumption) rfl | exact loads_ownS (by first | exact m0 | exact m1 | exact m2 | exact m3 | exact m4 | exact m5 | exact m6) (by rfl) | exact loads_own1 (by first | exact m0 | exact m1 | exact m2 | exact m3 | exact m4 | exact m5 | exact m6) (by rfl) rfl | exact loads_stillS (by assumption) (by rfl) | exact loads_stillF (by assumption) (by rfl) rfl) .free rfl ?_
            refine o_lits rfl rfl (by rfl) (by rfl) (by rfl) (by decide) (by decide) (by rfl) .free rfl ?_
            intro b68
            refine o_append (B := x.B) (xs := x.xs) (ys := [.string (str t.atom), .slice oa t.parts.length cc]) (m := x.m) (c := x.c) (by intro kk; simp) (by rfl) rfl rfl hB (fun _ h => h.u4) (by rfl) (fun a ha => by cases ha; exact reads_ownL (.head _) (by rfl)) (by simp) (by rfl) (by decide) (by decide) (by omega) (by decide) .free rfl ?_
            intro bb sp c' hB'
            first | refine o_fieldAddr rfl .free rfl ?_ | refine o_fieldAddr' rfl .free rfl ?_
            refine o_store rfl rfl rfl rfl (by first | rfl | (simp only [List.toList_toArray, List.all_cons, List.all_nil, plainCell_buf, Bool.and_true, Bool.true_and] <;> rfl)) (by first | exact u0 | exact u1 | exact u2 | exact u3 | exact u4 | exact u5 | exact u6) (by rfl) .free ?_
            have hpf' : pform k (x.s.drop 1) = some (t, r) := by
              cases hp : pform k (x.s.drop 1) with
              | none => rw [hp] at hpf; simp [hpf] at *
              | some p =>
                rw [hp] at hpf
                obtain ⟨rfl, rfl, rfl⟩ := hpf
                rfl
            have hrl' : RepL J (x.ts ++ [t]) (x.xs ++ [Value.string (str t.atom), Value.slice oa t.parts.length cc]) := (hrl.mono hleJ).append (.cons hrep .nil)
            have hlen' : x.m + 1 = (x.ts ++ [t]).length := by simp [hxm]
            refine o_done ?_
            refine s_seq ?_
            refine o_enter rfl ?_
            refine o_move rfl .free rfl ?_
            refine o_assign rfl .free rfl ?_
            refine o_done ?_
            refine s_seq ?_
            refine o_enter rfl ?_
            refine o_move rfl .free rfl ?_
            refine o_index (i := 0) rfl rfl rfl (List.length_pos_iff.2 (by assumption)) .free rfl ?_
            refine o_cmp rfl rfl rfl .free rfl ?_
            refine o_done ?_
            first | refine s_if rfl ?_ ?_ | refine s_ifn rfl ?_ ?_ | refine s_cond rfl ?_ ?_
            · intro c4
              refine s_seq ?_
              refine s_freeze ?_
              intro hfz
              refine d_all 6 rfl rfl ?_
              refine d_take 0 [3] rfl (by kernel_rfl) rfl heldx (y_load rfl (by first | exact loads_still1 (by assumption) rfl | exact loads_ownS (by first | exact m0 | exact m1 | exact m2 | exact m3 | exact m4 | exact m5 | exact m6) (by rfl) | exact loads_own1 (by first | exact m0 | exact m1 | exact m2 | exact m3 | exact m4 | exact m5 | exact m6) (by rfl) rfl | exact loads_stillS (by assumption) (by rfl) | exact loads_stillF (by assumption) (by rfl) rfl)) .free rfl ?_
              refine d_takeA 1 rfl (by kernel_rfl) rfl (.inr heldx) (y_move rfl) .free rfl ?_
              refine d_takeA 2 rfl (by kernel_rfl) rfl (.inr heldx) (y_slice_from rfl rfl 1 rfl (List.length_pos_iff.2 (by assumption))) .free rfl ?_
              refine d_store 3 rfl (by kernel_rfl) rfl rfl rfl rfl rfl (by first | rfl | (simp only [List.toList_toArray, List.all_cons, List.all_nil, plainCell_buf, Bool.and_true, Bool.true_and] <;> rfl)) (by first | exact u0 | exact u1 | exact u2 | exact u3 | exact u4 | exact u5 | exact u6) (by rfl) .free (.inl (by kernel_rfl)) ?_
              refine d_takeA 4 rfl (by kernel_rfl) rfl (.inl (by kernel_rfl)) (y_assign rfl) .free rfl ?_
              refine d_takeA 5 rfl (by kernel_rfl) rfl (.inl (by kernel_rfl)) (y_assign rfl) .free rfl ?_
              refine d_done (by kernel_rfl) ?_
              refine s_ret (.cell rfl (by first | exact loads_still1 (by assumption) rfl | exact loads_ownS (by first | exact m0 | exact m1 | exact m2 | exact m3 | exact m4 | exact m5 | exact m6) (by rfl) | exact loads_own1 (by first | exact m0 | exact m1 | exact m2 | exact m3 | exact m4 | exact m5 | exact m6) (by rfl) rfl | exact loads_stillS (by assumption) (by rfl) | exact loads_stillF (by assumption) (by rfl) rfl) (.tmp rfl (.tmp rfl .nil))) ?_
              refine ⟨_, L, (hle.trans hleJ).trans hfz, fun _ h => h.drop.drop.drop.drop, .node [] (x.ts ++ [t]), _, r.drop 1, true, rfl, .mk' hlen' (hrl'.mono hfz) (fun y hy => by cases hy; exact still_set) (by simp) hB'.2.1 (by simp [maxN]) (by unfold maxN; omega), rfl, by simp; omega, ?_⟩
              rw [link_last hlink (by omega) hpf' (by assumption) (by omega)]; exact ⟨rfl, rfl, rfl⟩
            · intro c4
              refine s_skip ?_
              refine s_inBlock ?_
              refine s_mem (fun w h => Mem.sub (L' := (b8, _) :: (b4, _) :: (bb, _) :: L) (by repeat (first | exact List.Sublist.refl _ | apply List.Sublist.cons_cons | apply List.Sublist.cons)) h.f4.f4) (s_env ?_ (ih ⟨J, r, x.m + 1, x.ts ++ [t], some (bb, sp), c', _, x.n - 1⟩ ⟨hle.trans hleJ, hrl', hB', hlen', by assumption, by simp; omega, by simp; omega, by simp; omega, link_next hlink (by omega) hpf' (by assumption) (by omega) (by omega)⟩ (by simp; omega)))
              exact ⟨rfl, rfl, rfl, rfl, trivial⟩
end Go.Proofs.Ytekfjhopngcneaa
