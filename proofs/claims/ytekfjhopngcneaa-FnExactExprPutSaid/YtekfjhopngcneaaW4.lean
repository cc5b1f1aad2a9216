
/- What reading a whole text returns. No conditions. -/
import Derived.Test.YtekfjhopngcneaaW3
import Derived.Test.YtekfjhopngcneaaForm
namespace Go.Proofs.Ytekfjhopngcneaa
set_option maxRecDepth 100000
set_option linter.unusedVariables false
set_option linter.unusedSimpArgs false

/-- What 'read' returns: a form, whatever the text, and whether it is the text's. -/
def RD (p : Option Tree) (L : Own) : Post := fun v I' L' => ∃ t cs ok, v = .tuple #[.agg cs.toArray, .bool ok] ∧ Rep I' t cs ∧ L = L' ∧
  (match p with
   | some t0 => ok = true ∧ t = t0
   | none => ok = false)

theorem f_read (s : Txt) (hs : s.length ≤ maxN) (I : Heap) (L : Own) : Fun Try.prog 26 [.string (str s)] I L (RD (parse s) L) := by
  unfold maxN at hs
  refine fun_intro (by simp) ?_
  refine s_seq ?_
  refine o_enter rfl ?_
  refine o_alloc .free rfl ?_
  intro b2
  refine o_assign rfl .free rfl ?_
  refine o_done ?_
  refine s_seq ?_
  refine s_seq ?_
  refine o_enter rfl ?_
  refine o_move rfl .free rfl ?_
  refine o_len_str rfl .free rfl ?_
  refine o_cmp rfl rfl rfl .free rfl ?_
  refine o_done ?_
  first | refine s_if rfl ?_ ?_ | refine s_ifn rfl ?_ ?_ | refine s_cond rfl ?_ ?_
  · intro c0
    refine s_seq ?_
    refine o_enter rfl ?_
    refine o_struct rfl rfl rfl .free rfl ?_
    refine o_store rfl rfl rfl rfl (by first | rfl | (simp only [List.toList_toArray, List.all_cons, List.all_nil, plainCell_buf, Bool.and_true, Bool.true_and] <;> rfl)) (by first | exact u0 | exact u1 | exact u2 | exact u3 | exact u4 | exact u5 | exact u6) (by rfl) .free ?_
    refine o_assign rfl .free rfl ?_
    refine o_done ?_
    refine s_ret (.cell rfl (by first | exact loads_still1 (by assumption) rfl | exact loads_ownS (by first | exact m0 | exact m1 | exact m2 | exact m3 | exact m4 | exact m5 | exact m6) (by rfl) | exact loads_own1 (by first | exact m0 | exact m1 | exact m2 | exact m3 | exact m4 | exact m5 | exact m6) (by rfl) rfl | exact loads_stillS (by assumption) (by rfl) | exact loads_stillF (by assumption) (by rfl) rfl) (.tmp rfl .nil)) ?_
    exact ⟨I, L, .refl _, fun _ h => h.drop, .node [] [], _, false, rfl, Rep.empty I, rfl, by rw [parse, if_pos (by omega)]⟩
  · intro c0
    refine s_skip ?_
    refine s_seq ?_
    refine o_enter rfl ?_
    refine o_move rfl .free rfl ?_
    refine o_call rfl .free rfl (f_readForm 60 s (by omega) 0 rfl _ _) ?_
    rintro _ J _ hleJ ⟨t, cs, r, ok, rfl, hrep, rfl, hrlen, hpf⟩
    obtain ⟨oa, cc, vs, rfl, -⟩ := hrep.open
    refine o_move rfl .free rfl ?_
    iterate 3 refine o_extract rfl rfl .free rfl ?_
    refine o_alloc .free rfl ?_
    intro b4
    refine o_store rfl rfl rfl rfl (by first | rfl | (simp only [List.toList_toArray, List.all_cons, List.all_nil, plainCell_buf, Bool.and_true, Bool.true_and] <;> rfl)) (by first | exact u0 | exact u1 | exact u2 | exact u3 | exact u4 | exact u5 | exact u6) (by rfl) .free ?_
    refine o_assign rfl .free rfl ?_
    refine o_assign rfl .free rfl ?_
    refine o_done ?_
    refine s_seq ?_
    refine o_enter rfl ?_
    refine o_load rfl (by first | exact loads_still1 (by assumption) rfl | exact loads_ownS (by first | exact m0 | exact m1 | exact m2 | exact m3 | exact m4 | exact m5 | exact m6) (by rfl) | exact loads_own1 (by first | exact m0 | exact m1 | exact m2 | exact m3 | exact m4 | exact m5 | exact m6) (by rfl) rfl | exact loads_stillS (by assumption) (by rfl) | exact loads_stillF (by assumption) (by rfl) rfl) .free rfl ?_
    refine o_move rfl .free rfl ?_
    refine o_move rfl .free rfl ?_
    first | refine g_if rfl rfl ?_ ?_ | refine g_ifn rfl rfl ?_ ?_ | refine g_b rfl rfl ?_ ?_
    · intro g4_3
      refine o_move rfl (.met rfl rfl) rfl ?_
      refine o_cmps rfl rfl rfl (.met rfl rfl) rfl ?_
      refine o_pick_true rfl rfl .free rfl ?_
      refine o_store rfl rfl rfl rfl (by first | rfl | (simp only [List.toList_toArray, List.all_cons, List.all_nil, plainCell_buf, Bool.and_true, Bool.true_and] <;> rfl)) (by first | exact u0 | exact u1 | exact u2 | exact u3 | exact u4 | exact u5 | exact u6) (by rfl) .free ?_
      refine o_assign rfl .free rfl ?_
      refine o_done ?_
      refine s_ret (.cell rfl (by first | exact loads_still1 (by assumption) rfl | exact loads_ownS (by first | exact m0 | exact m1 | exact m2 | exact m3 | exact m4 | exact m5 | exact m6) (by rfl) | exact loads_own1 (by first | exact m0 | exact m1 | exact m2 | exact m3 | exact m4 | exact m5 | exact m6) (by rfl) rfl | exact loads_stillS (by assumption) (by rfl) | exact loads_stillF (by assumption) (by rfl) rfl) (.tmp rfl .nil)) ?_
      refine ⟨J, L, hleJ, fun _ h => h.drop.drop, t, _, _, rfl, hrep, rfl, ?_⟩
      rw [parse, if_neg (by omega)]
      cases hp : pform 60 s with
      | none => simp_all
      | some p =>
        obtain ⟨t0, r0⟩ := p
        rw [hp] at hpf
        obtain ⟨rfl, rfl, rfl⟩ := hpf
        cases r <;> simp_all
    · intro g4_3
      refine o_skip rfl rfl rfl ?_
      refine o_skip rfl rfl rfl ?_
      refine o_pick_false rfl rfl .free rfl ?_
      refine o_store rfl rfl rfl rfl (by first | rfl | (simp only [List.toList_toArray, List.all_cons, List.all_nil, plainCell_buf, Bool.and_true, Bool.true_and] <;> rfl)) (by first | exact u0 | exact u1 | exact u2 | exact u3 | exact u4 | exact u5 | exact u6) (by rfl) .free ?_
      refine o_assign rfl .free rfl ?_
      refine o_done ?_
      refine s_ret (.cell rfl (by first | exact loads_still1 (by assumption) rfl | exact loads_ownS (by first | exact m0 | exact m1 | exact m2 | exact m3 | exact m4 | exact m5 | exact m6) (by rfl) | exact loads_own1 (by first | exact m0 | exact m1 | exact m2 | exact m3 | exact m4 | exact m5 | exact m6) (by rfl) rfl | exact loads_stillS (by assumption) (by rfl) | exact loads_stillF (by assumption) (by rfl) rfl) (.tmp rfl .nil)) ?_
      refine ⟨J, L, hleJ, fun _ h => h.drop.drop, t, _, _, rfl, hrep, rfl, ?_⟩
      rw [parse, if_neg (by omega)]
      cases hp : pform 60 s with
      | none => simp_all
      | some p =>
        obtain ⟨t0, r0⟩ := p
        rw [hp] at hpf
        obtain ⟨rfl, rfl, rfl⟩ := hpf
        cases r <;> simp_all

/-- What 'readType' returns. -/
def RT (p : Option Tree) (L : Own) : Post := fun v I' L' => ∃ t cs ok, v = .tuple #[.agg cs.toArray, .bool ok] ∧ Rep I' t cs ∧ L = L' ∧
  (match p with
   | some t0 => ok = t0.typed ∧ t = t0
   | none => ok = false)

/-- What 'l1Read' returns: where the form ends, or -1. -/
def LR (s : Txt) (p : Option (Tree × Txt)) (L : Own) : Post := fun v I' L' => ∃ t cs e, v = .tuple #[.agg cs.toArray, .int .i64 e] ∧ Rep I' t cs ∧ L = L' ∧
  (match p with
   | some (t0, r0) => t = t0 ∧ e = ((s.length - r0.length : Nat) : Int)
   | none => e = -1)
def lform : Nat → Txt → Option (Tree × Txt)
  | 0, _ => none
  | k + 1, s => pform k s
theorem lform_suffix {k : Nat} {s : Txt} {t : Tree} {r : Txt} (h : lform k s = some (t, r)) : r <:+ s := by
  cases k with
  | zero => cases h
  | succ k => exact pform_suffix h
theorem lform_len {k : Nat} {s : Txt} {t : Tree} {r : Txt} (h : lform k s = some (t, r)) : r.length < s.length := by
  cases k with
  | zero => cases h
  | succ k => exact pform_len h
theorem partsBy_none : ∀ (n : Nat) (s : Txt), partsBy (fun _ => none) n s = none
  | 0, _ => rfl
  | n + 1, s => rfl
theorem pform_paren' {k : Nat} {s : Txt} (h : (s.getD 0 0).toNat = 40) : pform k s = (match partsBy (lform k) s.length (s.drop 1) with
    | some (ts, r) => some (.node [] ts, r)
    | none => none) := by
  cases k with
  | zero => rw [pform_zero h, show lform 0 = fun _ => none from rfl, partsBy_none]
  | succ k => exact pform_paren h
structure LS where
  I : Heap
  i : Nat
  m : Nat
  ts : List Tree
  B : Buf
  c : Nat
  xs : List Value
  n : Nat
/-- The link of a loop over parts by indexes to that over what is left. -/
def LRInv (k : Nat) (s : Txt) (i₀ : Nat) (I₀ : Heap) (x : LS) : Prop := HLe I₀ x.I ∧ RepL x.I x.ts x.xs ∧ BufOk 2 x.m x.c x.xs x.B ∧ x.m = x.ts.length ∧ x.i < s.length ∧ s.length - x.i ≤ x.n ∧ x.m + (s.length - x.i) ≤ s.length ∧
  Link (lform k) (pform k (s.drop i₀)) ⟨x.I, s.drop x.i, x.m, x.ts, x.B, x.c, x.xs, x.n⟩
theorem getD_drop (s : Txt) (i n : Nat) : (s.drop i).getD n 0 = s.getD (i + n) 0 := by simp [List.getD_eq_getElem?_getD, List.getElem?_drop]
theorem LR_fail {s : Txt} {p : Option (Tree × Txt)} {t : Tree} {cs : List Value} {I : Heap} {L : Own} (hr : Rep I t cs) (hp : p = none) : LR s p L (.tuple #[.agg cs.toArray, .int .i64 (-1)]) I L :=
  ⟨t, cs, -1, rfl, hr, rfl, by rw [hp]⟩

theorem g_l1Read : ∀ (k : Nat) (s : Txt) (_ : s.length ≤ 12000) (i : Nat) (_ : i ≤ s.length) (depth : Nat) (_ : depth + k = 61) (I : Heap) (L : Own),
    Fun Try.prog 40 [.string (str s), .int .i64 (i : Nat), .int .i64 (depth : Nat)] I L (LR s (lform k (s.drop i)) L) := by
  intro k
  induction k with
  | zero =>
    intro s hsl i hi depth hdeep I L
    refine fun_intro (by simp) ?_
    refine s_seq ?_
    refine o_enter rfl ?_
    refine o_alloc .free rfl ?_
    intro b6
    refine o_assign rfl .free rfl ?_
    refine o_done ?_
    refine s_seq ?_
    refine o_enter rfl ?_
    refine o_struct rfl rfl rfl .free rfl ?_
    refine o_alloc .free rfl ?_
    intro b8
    refine o_store rfl rfl rfl rfl (by first | rfl | (simp only [List.toList_toArray, List.all_cons, List.all_nil, plainCell_buf, Bool.and_true, Bool.true_and] <;> rfl)) (by first | exact u0 | exact u1 | exact u2 | exact u3 | exact u4 | exact u5 | exact u6) (by rfl) .free ?_
    refine o_done ?_
    refine s_seq ?_
    refine s_seq ?_
    refine o_enter rfl ?_
    refine o_move rfl .free rfl ?_
    refine o_cmp rfl rfl rfl .free rfl ?_
    refine o_move rfl .free rfl ?_
    first | refine g_tp rfl rfl (by omega) ?_ | refine g_tn rfl rfl (by omega) ?_
    iterate 4 refine o_skip rfl rfl rfl ?_
    refine o_pick_true rfl rfl .free rfl ?_
    refine o_done ?_
    refine s_true rfl ?_
    refine s_seq ?_
    refine o_enter rfl ?_
    refine o_load rfl (by first | exact loads_still1 (by assumption) rfl | exact loads_ownS (by first | exact m0 | exact m1 | exact m2 | exact m3 | exact m4 | exact m5 | exact m6) (by rfl) | exact loads_own1 (by first | exact m0 | exact m1 | exact m2 | exact m3 | exact m4 | exact m5 | exact m6) (by rfl) rfl | exact loads_stillS (by assumption) (by rfl) | exact loads_stillF (by assumption) (by rfl) rfl) .free rfl ?_
    refine o_store rfl rfl rfl rfl (by first | rfl | (simp only [List.toList_toArray, List.all_cons, List.all_nil, plainCell_buf, Bool.and_true, Bool.true_and] <;> rfl)) (by first | exact u0 | exact u1 | exact u2 | exact u3 | exact u4 | exact u5 | exact u6) (by rfl) .free ?_
    refine o_assign rfl .free rfl ?_
    refine o_done ?_
    refine s_ret (.cell rfl (by first | exact loads_still1 (by assumption) rfl | exact loads_ownS (by first | exact m0 | exact m1 | exact m2 | exact m3 | exact m4 | exact m5 | exact m6) (by rfl) | exact loads_own1 (by first | exact m0 | exact m1 | exact m2 | exact m3 | exact m4 | exact m5 | exact m6) (by rfl) rfl | exact loads_stillS (by assumption) (by rfl) | exact loads_stillF (by assumption) (by rfl) rfl) (.tmp rfl .nil)) ?_
    exact ⟨I, L, .refl _, fun _ h => h.drop.drop, .node [] [], _, -1, rfl, Rep.empty I, rfl, rfl⟩
  | succ k ihk =>
    intro s hsl i hi depth hdeep I L
    refine fun_intro (by simp) ?_
    refine s_seq ?_
    refine o_enter rfl ?_
    refine o_alloc .free rfl ?_
    intro b6
    refine o_assign rfl .free rfl ?_
    refine o_done ?_
    refine s_seq ?_
    refine o_enter rfl ?_
    refine o_struct rfl rfl rfl .free rfl ?_
    refine o_alloc .free rfl ?_
    intro b8
    refine o_store rfl rfl rfl rfl (by first | rfl | (simp only [List.toList_toArray, List.all_cons, List.all_nil, plainCell_buf, Bool.and_true, Bool.true_and] <;> rfl)) (by first | exact u0 | exact u1 | exact u2 | exact u3 | exact u4 | exact u5 | exact u6) (by rfl) .free ?_
    refine o_done ?_
    refine s_seq ?_
    refine s_seq ?_
    refine o_enter rfl ?_
    refine o_move rfl .free rfl ?_
    refine o_cmp rfl rfl rfl .free rfl ?_
    refine o_move rfl .free rfl ?_
    first | refine g_fp rfl rfl (by omega) ?_ | refine g_fn rfl rfl (by omega) ?_
    refine o_move rfl (.met rfl rfl) rfl ?_
    refine o_move rfl (.met rfl rfl) rfl ?_
    refine o_len_str rfl (.met rfl rfl) rfl ?_
    refine o_cmp rfl rfl rfl (.met rfl rfl) rfl ?_
    refine o_pick_false rfl rfl .free rfl ?_
    refine o_done ?_
    first | refine s_if rfl ?_ ?_ | refine s_ifn rfl ?_ ?_ | refine s_cond rfl ?_ ?_
    · intro c0
      refine s_seq ?_
      refine o_enter rfl ?_
      refine o_load rfl (by first | exact loads_still1 (by assumption) rfl | exact loads_ownS (by first | exact m0 | exact m1 | exact m2 | exact m3 | exact m4 | exact m5 | exact m6) (by rfl) | exact loads_own1 (by first | exact m0 | exact m1 | exact m2 | exact m3 | exact m4 | exact m5 | exact m6) (by rfl) rfl | exact loads_stillS (by assumption) (by rfl) | exact loads_stillF (by assumption) (by rfl) rfl) .free rfl ?_
      refine o_store rfl rfl rfl rfl (by first | rfl | (simp only [List.toList_toArray, List.all_cons, List.all_nil, plainCell_buf, Bool.and_true, Bool.true_and] <;> rfl)) (by first | exact u0 | exact u1 | exact u2 | exact u3 | exact u4 | exact u5 | exact u6) (by rfl) .free ?_
      refine o_assign rfl .free rfl ?_
      refine o_done ?_
      refine s_ret (.cell rfl (by first | exact loads_still1 (by assumption) rfl | exact loads_ownS (by first | exact m0 | exact m1 | exact m2 | exact m3 | exact m4 | exact m5 | exact m6) (by rfl) | exact loads_own1 (by first | exact m0 | exact m1 | exact m2 | exact m3 | exact m4 | exact m5 | exact m6) (by rfl) rfl | exact loads_stillS (by assumption) (by rfl) | exact loads_stillF (by assumption) (by rfl) rfl) (.tmp rfl .nil)) ?_
      exact ⟨I, L, .refl _, fun _ h => h.drop.drop, LR_fail (Rep.empty I) (by simp only [lform]; rw [List.drop_eq_nil_of_le (by omega)]; cases k <;> rfl)⟩
    · intro c0
      refine s_skip ?_
      refine s_seq ?_
      refine s_seq ?_
      refine o_enter rfl ?_
      refine o_move rfl .free rfl ?_
      refine o_move rfl .free rfl ?_
      refine o_index rfl rfl rfl (by first | omega | exact lt_of (by assumption) (by decide) | (simp; done) | (simp; omega) | decide | (simp at *; omega)) .free rfl ?_
      refine o_cmp rfl rfl rfl .free rfl ?_
      refine o_done ?_
      first | refine s_if rfl ?_ ?_ | refine s_ifn rfl ?_ ?_ | refine s_cond rfl ?_ ?_
      · intro c1
        have h40 : ((s.drop i).getD 0 0).toNat ≠ 40 := by rw [getD_drop]; simp only [Nat.add_zero]; omega
        refine s_seq ?_
        refine o_enter rfl ?_
        refine o_move rfl .free rfl ?_
        refine o_assign rfl .free rfl ?_
        refine o_done ?_
        refine s_seq ?_
        refine s_block ?_
        refine s_while (X := Nat) (fun n => s.length - i - n) (fun n => [(0, .string (str s)), (1, .int .i64 ((i + n : Nat))), (6, .pointer (some ⟨b6, 0, none⟩)), (8, .pointer (some ⟨b8, 0, none⟩)), (9, .int .i64 (i : Nat))]) (fun _ => I)
          (fun _ => (b8, .cells [.string (str []), .slice none 0 0].toArray 27 (0, 0)) :: (b6, .cells [.string (str []), .slice none 0 0].toArray 27 (0, 0)) :: L) (fun n => i + n ≤ s.length ∧ ((s.drop i).take n).all abyte = true) 0 ⟨by omega, by simp⟩ ⟨rfl, rfl, rfl, rfl, rfl, trivial⟩ (fun _ h => h) ?_
        rintro n ⟨hn, hall⟩ ih
        refine s_seq ?_
        refine s_seq ?_
        refine o_enter rfl ?_
        refine o_move rfl .free rfl ?_
        refine o_move rfl .free rfl ?_
        refine o_len_str rfl .free rfl ?_
        refine o_cmp rfl rfl rfl .free rfl ?_
        refine o_move rfl .free rfl ?_
        first | refine g_if rfl rfl ?_ ?_ | refine g_ifn rfl rfl ?_ ?_ | refine g_b rfl rfl ?_ ?_
        · intro g6_5
          refine o_move rfl (.met rfl rfl) rfl ?_
          refine o_move rfl (.met rfl rfl) rfl ?_
          refine o_index rfl rfl rfl (by first | omega | exact lt_of (by assumption) (by decide) | (simp; done) | (simp; omega) | decide | (simp at *; omega)) (.met rfl rfl) rfl ?_
          refine o_call rfl (.met rfl rfl) rfl (g_l1Byte _ _ _) ?_
          rintro _ _ _ _ ⟨rfl, rfl, rfl⟩
          refine o_pick_true rfl rfl .free rfl ?_
          refine o_done ?_
          first | refine s_if rfl ?_ ?_ | refine s_ifn rfl ?_ ?_ | refine s_cond rfl ?_ ?_
          · intro c2
            refine s_skip ?_
            refine s_block ?_
            refine o_enter rfl ?_
            refine o_move rfl .free rfl ?_
            refine o_arith rfl rfl rfl (by omega) .free rfl ?_
            refine o_assign rfl .free rfl ?_
            refine o_done ?_
            refine s_inBlock ?_
            refine s_env (E' := [(0, .string (str s)), (1, .int .i64 ((i + (n + 1) : Nat))), (6, .pointer (some ⟨b6, 0, none⟩)), (8, .pointer (some ⟨b8, 0, none⟩)), (9, .int .i64 (i : Nat))]) ⟨rfl, rfl, rfl, rfl, rfl, trivial⟩ (ih (n + 1) ⟨by omega, take_all hall (by rw [List.length_drop]; omega) (by rw [getD_drop]; assumption)⟩ (by omega))
          · intro c2
            refine s_exit rfl ?_
            refine s_seq ?_
            have htw := takeWhile_at (n := n) hall (by first | exact .inl (by rw [List.length_drop]; omega) | exact .inr ⟨by rw [List.length_drop]; omega, by rw [getD_drop]; assumption⟩)
            have hpo := pform_open (k := k) h40
            rw [htw.1, htw.2] at hpo
            have hdt : (s.take (i + n)).drop i = (s.drop i).take n := by rw [List.drop_take]; congr 1; omega
            refine o_enter rfl ?_
            iterate 3 refine o_move rfl .free rfl ?_
            refine o_slice_str rfl rfl rfl i (i + n) rfl rfl (by omega) .free rfl ?_
            rw [hdt]
            first | refine o_fieldAddr rfl .free rfl ?_ | refine o_fieldAddr' rfl .free rfl ?_
            refine o_store rfl rfl rfl rfl (by first | rfl | (simp only [List.toList_toArray, List.all_cons, List.all_nil, plainCell_buf, Bool.and_true, Bool.true_and] <;> rfl)) (by first | exact u0 | exact u1 | exact u2 | exact u3 | exact u4 | exact u5 | exact u6) (by rfl) .free ?_
            refine o_done ?_
            refine s_seq ?_
            refine s_seq ?_
            refine o_enter rfl ?_
            first | refine o_fieldAddr rfl .free rfl ?_ | refine o_fieldAddr' rfl .free rfl ?_
            refine o_load rfl (by first | exact loads_still1 (by assumption) rfl | exact loads_ownS (by first | exact m0 | exact m1 | exact m2 | exact m3 | exact m4 | exact m5 | exact m6) (by rfl) | exact loads_own1 (by first | exact m0 | exact m1 | exact m2 | exact m3 | exact m4 | exact m5 | exact m6) (by rfl) rfl | exact loads_stillS (by assumption) (by rfl) | exact loads_stillF (by assumption) (by rfl) rfl) .free rfl ?_
            refine o_cmps rfl rfl rfl .free rfl ?_
            refine o_done ?_
            first | refine s_if rfl ?_ ?_ | refine s_ifn rfl ?_ ?_ | refine s_cond rfl ?_ ?_
            · intro c3
              refine s_seq ?_
              refine o_enter rfl ?_
              refine o_load rfl (by first | exact loads_still1 (by assumption) rfl | exact loads_ownS (by first | exact m0 | exact m1 | exact m2 | exact m3 | exact m4 | exact m5 | exact m6) (by rfl) | exact loads_own1 (by first | exact m0 | exact m1 | exact m2 | exact m3 | exact m4 | exact m5 | exact m6) (by rfl) rfl | exact loads_stillS (by assumption) (by rfl) | exact loads_stillF (by assumption) (by rfl) rfl) .free rfl ?_
              refine o_store rfl rfl rfl rfl (by first | rfl | (simp only [List.toList_toArray, List.all_cons, List.all_nil, plainCell_buf, Bool.and_true, Bool.true_and] <;> rfl)) (by first | exact u0 | exact u1 | exact u2 | exact u3 | exact u4 | exact u5 | exact u6) (by rfl) .free ?_
              refine o_assign rfl .free rfl ?_
              refine o_done ?_
              refine s_ret (.cell rfl (by first | exact loads_still1 (by assumption) rfl | exact loads_ownS (by first | exact m0 | exact m1 | exact m2 | exact m3 | exact m4 | exact m5 | exact m6) (by rfl) | exact loads_own1 (by first | exact m0 | exact m1 | exact m2 | exact m3 | exact m4 | exact m5 | exact m6) (by rfl) rfl | exact loads_stillS (by assumption) (by rfl) | exact loads_stillF (by assumption) (by rfl) rfl) (.tmp rfl .nil)) ?_
              exact ⟨I, L, .refl _, fun _ h => h.drop.drop, LR_fail (.ofAtom (by unfold maxN; simp; omega)) (by simp only [lform]; rw [hpo, if_pos (by assumption)])⟩
            · intro c3
              refine s_skip ?_
              refine s_seq ?_
              refine o_enter rfl ?_
              refine o_load rfl (by first | exact loads_still1 (by assumption) rfl | exact loads_ownS (by first | exact m0 | exact m1 | exact m2 | exact m3 | exact m4 | exact m5 | exact m6) (by rfl) | exact loads_own1 (by first | exact m0 | exact m1 | exact m2 | exact m3 | exact m4 | exact m5 | exact m6) (by rfl) rfl | exact loads_stillS (by assumption) (by rfl) | exact loads_stillF (by assumption) (by rfl) rfl) .free rfl ?_
              refine o_move rfl .free rfl ?_
              refine o_store rfl rfl rfl rfl (by first | rfl | (simp only [List.toList_toArray, List.all_cons, List.all_nil, plainCell_buf, Bool.and_true, Bool.true_and] <;> rfl)) (by first | exact u0 | exact u1 | exact u2 | exact u3 | exact u4 | exact u5 | exact u6) (by rfl) .free ?_
              refine o_assign rfl .free rfl ?_
              refine o_done ?_
              refine s_ret (.cell rfl (by first | exact loads_still1 (by assumption) rfl | exact loads_ownS (by first | exact m0 | exact m1 | exact m2 | exact m3 | exact m4 | exact m5 | exact m6) (by rfl) | exact loads_own1 (by first | exact m0 | exact m1 | exact m2 | exact m3 | exact m4 | exact m5 | exact m6) (by rfl) rfl | exact loads_stillS (by assumption) (by rfl) | exact loads_stillF (by assumption) (by rfl) rfl) (.tmp rfl .nil)) ?_
              refine ⟨I, L, .refl _, fun _ h => h.drop.drop, .node ((s.drop i).take n) [], _, _, rfl, .ofAtom (by unfold maxN; simp; omega), rfl, ?_⟩
              simp only [lform]; rw [hpo, if_neg (by assumption)]
              refine ⟨rfl, ?_⟩
              simp only [List.length_drop]; omega
        · intro g6_5
          iterate 4 refine o_skip rfl rfl rfl ?_
          refine o_pick_false rfl rfl .free rfl ?_
          refine o_done ?_
          refine s_false rfl ?_
          refine s_exit rfl ?_
          refine s_seq ?_
          have htw := takeWhile_at (n := n) hall (by first | exact .inl (by rw [List.length_drop]; omega) | exact .inr ⟨by rw [List.length_drop]; omega, by rw [getD_drop]; assumption⟩)
          have hpo := pform_open (k := k) h40
          rw [htw.1, htw.2] at hpo
          have hdt : (s.take (i + n)).drop i = (s.drop i).take n := by rw [List.drop_take]; congr 1; omega
          refine o_enter rfl ?_
          iterate 3 refine o_move rfl .free rfl ?_
          refine o_slice_str rfl rfl rfl i (i + n) rfl rfl (by omega) .free rfl ?_
          rw [hdt]
          first | refine o_fieldAddr rfl .free rfl ?_ | refine o_fieldAddr' rfl .free rfl ?_
          refine o_store rfl rfl rfl rfl (by first | rfl | (simp only [List.toList_toArray, List.all_cons, List.all_nil, plainCell_buf, Bool.and_true, Bool.true_and] <;> rfl)) (by first | exact u0 | exact u1 | exact u2 | exact u3 | exact u4 | exact u5 | exact u6) (by rfl) .free ?_
          refine o_done ?_
          refine s_seq ?_
          refine s_seq ?_
          refine o_enter rfl ?_
          first | refine o_fieldAddr rfl .free rfl ?_ | refine o_fieldAddr' rfl .free rfl ?_
          refine o_load rfl (by first | exact loads_still1 (by assumption) rfl | exact loads_ownS (by first | exact m0 | exact m1 | exact m2 | exact m3 | exact m4 | exact m5 | exact m6) (by rfl) | exact loads_own1 (by first | exact m0 | exact m1 | exact m2 | exact m3 | exact m4 | exact m5 | exact m6) (by rfl) rfl | exact loads_stillS (by assumption) (by rfl) | exact loads_stillF (by assumption) (by rfl) rfl) .free rfl ?_
          refine o_cmps rfl rfl rfl .free rfl ?_
          refine o_done ?_
          first | refine s_if rfl ?_ ?_ | refine s_ifn rfl ?_ ?_ | refine s_cond rfl ?_ ?_
          · intro c3
            refine s_seq ?_
            refine o_enter rfl ?_
            refine o_load rfl (by first | exact loads_still1 (by assumption) rfl | exact loads_ownS (by first | exact m0 | exact m1 | exact m2 | exact m3 | exact m4 | exact m5 | exact m6) (by rfl) | exact loads_own1 (by first | exact m0 | exact m1 | exact m2 | exact m3 | exact m4 | exact m5 | exact m6) (by rfl) rfl | exact loads_stillS (by assumption) (by rfl) | exact loads_stillF (by assumption) (by rfl) rfl) .free rfl ?_
            refine o_store rfl rfl rfl rfl (by first | rfl | (simp only [List.toList_toArray, List.all_cons, List.all_nil, plainCell_buf, Bool.and_true, Bool.true_and] <;> rfl)) (by first | exact u0 | exact u1 | exact u2 | exact u3 | exact u4 | exact u5 | exact u6) (by rfl) .free ?_
            refine o_assign rfl .free rfl ?_
            refine o_done ?_
            refine s_ret (.cell rfl (by first | exact loads_still1 (by assumption) rfl | exact loads_ownS (by first | exact m0 | exact m1 | exact m2 | exact m3 | exact m4 | exact m5 | exact m6) (by rfl) | exact loads_own1 (by first | exact m0 | exact m1 | exact m2 | exact m3 | exact m4 | exact m5 | exact m6) (by rfl) rfl | exact loads_stillS (by assumption) (by rfl) | exact loads_stillF (by assumption) (by rfl) rfl) (.tmp rfl .nil)) ?_
            exact ⟨I, L, .refl _, fun _ h => h.drop.drop, LR_fail (.ofAtom (by unfold maxN; simp; omega)) (by simp only [lform]; rw [hpo, if_pos (by assumption)])⟩
          · intro c3
            refine s_skip ?_
            refine s_seq ?_
            refine o_enter rfl ?_
            refine o_load rfl (by first | exact loads_still1 (by assumption) rfl | exact loads_ownS (by first | exact m0 | exact m1 | exact m2 | exact m3 | exact m4 | exact m5 | exact m6) (by rfl) | exact loads_own1 (by first | exact m0 | exact m1 | exact m2 | exact m3 | exact m4 | exact m5 | exact m6) (by rfl) rfl | exact loads_stillS (by assumption) (by rfl) | exact loads_stillF (by assumption) (by rfl) rfl) .free rfl ?_
            refine o_move rfl .free rfl ?_
            refine o_store rfl rfl rfl rfl (by first | rfl | (simp only [List.toList_toArray, List.all_cons, List.all_nil, plainCell_buf, Bool.and_true, Bool.true_and] <;> rfl)) (by first | exact u0 | exact u1 | exact u2 | exact u3 | exact u4 | exact u5 | exact u6) (by rfl) .free ?_
            refine o_assign rfl .free rfl ?_
            refine o_done ?_
            refine s_ret (.cell rfl (by first | exact loads_still1 (by assumption) rfl | exact loads_ownS (by first | exact m0 | exact m1 | exact m2 | exact m3 | exact m4 | exact m5 | exact m6) (by rfl) | exact loads_own1 (by first | exact m0 | exact m1 | exact m2 | exact m3 | exact m4 | exact m5 | exact m6) (by rfl) rfl | exact loads_stillS (by assumption) (by rfl) | exact loads_stillF (by assumption) (by rfl) rfl) (.tmp rfl .nil)) ?_
            refine ⟨I, L, .refl _, fun _ h => h.drop.drop, .node ((s.drop i).take n) [], _, _, rfl, .ofAtom (by unfold maxN; simp; omega), rfl, ?_⟩
            simp only [lform]; rw [hpo, if_neg (by assumption)]
            refine ⟨rfl, ?_⟩
            simp only [List.length_drop]; omega
      · intro c1
        refine s_skip ?_
        refine s_block ?_
        have hi' : i < s.length := by omega
        refine s_while (X := LS) (fun x => s.length - x.i) (fun x => [(0, .string (str s)), (1, .int .i64 (x.i : Nat)), (2, .int .i64 (depth : Nat)), (6, .pointer (some ⟨b6, 0, none⟩)), (8, .pointer (some ⟨b8, 0, none⟩))]) (fun x => x.I)
          (fun x => (b8, .cells [.string (str []), bufVal x.m x.c x.B].toArray 27 (0, 0)) :: (b6, .cells [.string (str []), .slice none 0 0].toArray 27 (0, 0)) :: (bufOwn 27 x.xs x.B ++ L)) (LRInv k s i I) ⟨I, i, 0, [], none, 0, [], s.length - i⟩
          ⟨.refl _, .nil, ⟨rfl, rfl, rfl⟩, rfl, hi', Nat.le_refl _, by simp, by
            have := pform_paren' (k := k) (s := s.drop i) (by rw [getD_drop]; simp only [Nat.add_zero]; omega)
            rw [List.length_drop] at this
            unfold Link
            split <;> simp_all⟩ ⟨rfl, rfl, rfl, rfl, rfl, trivial⟩ (fun _ h => h) ?_
        rintro x ⟨hle, hrl, hB, hxm, hxi, hxn, hxt, hlink⟩ ih
        refine s_block ?_
        refine s_seq ?_
        refine o_enter rfl ?_
        refine o_move rfl .free rfl ?_
        refine o_move rfl .free rfl ?_
        refine o_arith rfl rfl rfl (by omega) .free rfl ?_
        refine o_move rfl .free rfl ?_
        refine o_arith rfl rfl rfl (by omega) .free rfl ?_
        refine o_call rfl .free rfl (ihk s hsl (x.i + 1) (by omega) (depth + 1) (by omega) _ _) ?_
        rintro _ J _ hleJ ⟨t, cs, e, rfl, hrep, rfl, hpf⟩
        obtain ⟨oa, cc, vs, rfl, -⟩ := hrep.open
        have hdd : (s.drop x.i).drop 1 = s.drop (x.i + 1) := by rw [List.drop_drop]
        obtain ⟨je, hje⟩ : ∃ je : Nat, e = je ∨ e = -1 := by
          cases hp : lform k (s.drop (x.i + 1)) with
          | none => rw [hp] at hpf; exact ⟨0, .inr hpf⟩
          | some p => rw [hp] at hpf; exact ⟨_, .inl hpf.2⟩
        refine o_move rfl .free rfl ?_
        refine o_extract rfl rfl .free rfl ?_
        refine o_extract rfl rfl .free rfl ?_
        refine o_alloc .free rfl ?_
        intro b10
        refine o_store rfl rfl rfl rfl (by first | rfl | (simp only [List.toList_toArray, List.all_cons, List.all_nil, plainCell_buf, Bool.and_true, Bool.true_and] <;> rfl)) (by first | exact u0 | exact u1 | exact u2 | exact u3 | exact u4 | exact u5 | exact u6) (by rfl) .free ?_
        refine o_assign rfl .free rfl ?_
        refine o_done ?_
        refine s_seq ?_
        refine s_seq ?_
        refine o_enter rfl ?_
        refine o_move rfl .free rfl ?_
        refine o_cmp rfl rfl rfl .free rfl ?_
        refine o_move rfl .free rfl ?_
        first | refine g_if rfl rfl ?_ ?_ | refine g_ifn rfl rfl ?_ ?_ | refine g_b rfl rfl ?_ ?_
        · intro g13_3
          iterate 4 refine o_skip rfl rfl rfl ?_
          refine o_pick_true rfl rfl .free rfl ?_
          refine o_done ?_
          refine s_true rfl ?_
          refine s_seq ?_
          refine s_mem (fun w h => h.u3) (s_freezeBuf (a := []) (hrl.mono hleJ) hB hxm (by simp [maxN]) (by unfold maxN; omega) ?_)
          intro J2 hle2 hrep2
          refine o_enter rfl ?_
          refine o_load rfl (by first | exact loads_still1 (by assumption) rfl | exact loads_ownS (by first | exact m0 | exact m1 | exact m2 | exact m3 | exact m4 | exact m5 | exact m6) (by rfl) | exact loads_own1 (by first | exact m0 | exact m1 | exact m2 | exact m3 | exact m4 | exact m5 | exact m6) (by rfl) rfl | exact loads_stillS (by assumption) (by rfl) | exact loads_stillF (by assumption) (by rfl) rfl) .free rfl ?_
          refine o_store rfl rfl rfl rfl (by first | rfl | (simp only [List.toList_toArray, List.all_cons, List.all_nil, plainCell_buf, Bool.and_true, Bool.true_and] <;> rfl)) (by first | exact u0 | exact u1 | exact u2 | exact u3 | exact u4 | exact u5 | exact u6) (by rfl) .free ?_
          refine o_assign rfl .free rfl ?_
          refine o_done ?_
          refine s_ret (.cell rfl (by first | exact loads_still1 (by assumption) rfl | exact loads_ownS (by first | exact m0 | exact m1 | exact m2 | exact m3 | exact m4 | exact m5 | exact m6) (by rfl) | exact loads_own1 (by first | exact m0 | exact m1 | exact m2 | exact m3 | exact m4 | exact m5 | exact m6) (by rfl) rfl | exact loads_stillS (by assumption) (by rfl) | exact loads_stillF (by assumption) (by rfl) rfl) (.tmp rfl .nil)) ?_
          have hf : pform k (s.drop i) = none := by
            refine link_fail hlink (by simp only; omega) ?_
            simp only [hdd]
            cases hp : lform k (s.drop (x.i + 1)) with
            | none => exact .inl rfl
            | some p =>
              obtain ⟨t0, r0⟩ := p
              rw [hp] at hpf
              refine .inr ⟨t0, r0, rfl, .inl ?_⟩
              have h2 := hpf.2
              apply List.eq_nil_of_length_eq_zero
              omega
          exact ⟨J2, L, (hle.trans hleJ).trans hle2, fun _ h => h.drop.drop.drop, LR_fail hrep2 hf⟩
        · intro g13_3
          refine o_move rfl (.met rfl rfl) rfl ?_
          refine o_move rfl (.met rfl rfl) rfl ?_
          refine o_len_str rfl (.met rfl rfl) rfl ?_
          refine o_cmp rfl rfl rfl (.met rfl rfl) rfl ?_
          refine o_pick_false rfl rfl .free rfl ?_
          refine o_done ?_
          first | refine s_if rfl ?_ ?_ | refine s_ifn rfl ?_ ?_ | refine s_cond rfl ?_ ?_
          · intro c4
            refine s_seq ?_
            refine s_mem (fun w h => h.u3) (s_freezeBuf (a := []) (hrl.mono hleJ) hB hxm (by simp [maxN]) (by unfold maxN; omega) ?_)
            intro J2 hle2 hrep2
            refine o_enter rfl ?_
            refine o_load rfl (by first | exact loads_still1 (by assumption) rfl | exact loads_ownS (by first | exact m0 | exact m1 | exact m2 | exact m3 | exact m4 | exact m5 | exact m6) (by rfl) | exact loads_own1 (by first | exact m0 | exact m1 | exact m2 | exact m3 | exact m4 | exact m5 | exact m6) (by rfl) rfl | exact loads_stillS (by assumption) (by rfl) | exact loads_stillF (by assumption) (by rfl) rfl) .free rfl ?_
            refine o_store rfl rfl rfl rfl (by first | rfl | (simp only [List.toList_toArray, List.all_cons, List.all_nil, plainCell_buf, Bool.and_true, Bool.true_and] <;> rfl)) (by first | exact u0 | exact u1 | exact u2 | exact u3 | exact u4 | exact u5 | exact u6) (by rfl) .free ?_
            refine o_assign rfl .free rfl ?_
            refine o_done ?_
            refine s_ret (.cell rfl (by first | exact loads_still1 (by assumption) rfl | exact loads_ownS (by first | exact m0 | exact m1 | exact m2 | exact m3 | exact m4 | exact m5 | exact m6) (by rfl) | exact loads_own1 (by first | exact m0 | exact m1 | exact m2 | exact m3 | exact m4 | exact m5 | exact m6) (by rfl) rfl | exact loads_stillS (by assumption) (by rfl) | exact loads_stillF (by assumption) (by rfl) rfl) (.tmp rfl .nil)) ?_
            have hf : pform k (s.drop i) = none := by
              refine link_fail hlink (by simp only; omega) ?_
              simp only [hdd]
              cases hp : lform k (s.drop (x.i + 1)) with
              | none => exact .inl rfl
              | some p =>
                obtain ⟨t0, r0⟩ := p
                rw [hp] at hpf
                refine .inr ⟨t0, r0, rfl, .inl ?_⟩
                have h2 := hpf.2
                apply List.eq_nil_of_length_eq_zero
                omega
            exact ⟨J2, L, (hle.trans hleJ).trans hle2, fun _ h => h.drop.drop.drop, LR_fail hrep2 hf⟩
          · intro c4
            refine s_skip ?_
            refine s_seq ?_
            obtain rfl : e = je := by omega
            obtain ⟨r, hpf', hre, hrne⟩ : ∃ r, lform k (s.drop (x.i + 1)) = some (t, r) ∧ r = s.drop je ∧ r ≠ [] := by
              cases hp : lform k (s.drop (x.i + 1)) with
              | none => rw [hp] at hpf; omega
              | some p =>
                obtain ⟨t0, r0⟩ := p
                rw [hp] at hpf
                obtain ⟨rfl, h2⟩ := hpf
                have hsf := lform_suffix hp
                have h3 := suffix_drop (hsf.trans (List.drop_suffix _ _))
                have h4 := hsf.length_le
                rw [List.length_drop] at h4
                have h5 : je = s.length - r0.length := by omega
                refine ⟨r0, rfl, by rw [h5]; exact h3, ?_⟩
                intro e; subst e; simp at h5; omega
            have hrl0 : r.length = s.length - je := by rw [hre]; simp
            have hrpos := List.length_pos_iff.2 hrne
            have hrlt : x.i + 1 < je := by have := lform_len hpf'; rw [List.length_drop] at this; omega
            refine o_enter rfl ?_
            first | refine o_fieldAddr rfl .free rfl ?_ | refine o_fieldAddr' rfl .free rfl ?_
            refine o_load rfl (by first | exact loads_still1 (by assumption) rfl | exact loads_ownS (by first | exact m0 | exact m1 | exact m2 | exact m3 | exact m4 | exact m5 | exact m6) (by rfl) | exact loads_own1 (by first | exact m0 | exact m1 | exact m2 | exact m3 | exact m4 | exact m5 | exact m6) (by rfl) rfl | exact loads_stillS (by assumption) (by rfl) | exact loads_stillF (by assumption) (by rfl) rfl) .free rfl ?_
            refine o_load rfl (by first | exact loads_still1 (by assumption) rfl | exact loads_ownS (by first | exact m0 | exact m1 | exact m2 | exact m3 | exact m4 | exact m5 | exact m6) (by rfl) | exact loads_own1 (by first | exact m0 | exact m1 | exact m2 | exact m3 | exact m4 | exact m5 | exact m6) (by rfl) rfl | exact loads_stillS (by assumption) (by rfl) | exact loads_stillF (by assumption) (by rfl) rfl) .free rfl ?_
            refine o_lits rfl rfl (by rfl) (by rfl) (by rfl) (by decide) (by decide) (by rfl) .free rfl ?_
            intro b71
            refine o_append (B := x.B) (xs := x.xs) (ys := [.string (str t.atom), .slice oa t.parts.length cc]) (m := x.m) (c := x.c) (by intro kk; simp) (by rfl) rfl rfl hB (fun _ h => h.u4) (by rfl) (fun a ha => by cases ha; exact reads_ownL (.head _) (by rfl)) (by simp) (by rfl) (by decide) (by decide) (by omega) (by decide) .free rfl ?_
            intro bb sp c' hB'
            first | refine o_fieldAddr rfl .free rfl ?_ | refine o_fieldAddr' rfl .free rfl ?_
            refine o_store rfl rfl rfl rfl (by first | rfl | (simp only [List.toList_toArray, List.all_cons, List.all_nil, plainCell_buf, Bool.and_true, Bool.true_and] <;> rfl)) (by first | exact u0 | exact u1 | exact u2 | exact u3 | exact u4 | exact u5 | exact u6) (by rfl) .free ?_
            have hrl' : RepL J (x.ts ++ [t]) (x.xs ++ [Value.string (str t.atom), Value.slice oa t.parts.length cc]) := (hrl.mono hleJ).append (.cons hrep .nil)
            have hlen' : x.m + 1 = (x.ts ++ [t]).length := by simp [hxm]
            have hhd : r.getD 0 0 = s.getD je 0 := by rw [hre, getD_drop]; rfl
            refine o_done ?_
            refine s_seq ?_
            refine o_enter rfl ?_
            refine o_move rfl .free rfl ?_
            refine o_assign rfl .free rfl ?_
            refine o_done ?_
            refine s_seq ?_
            refine s_seq ?_
            refine o_enter rfl ?_
            refine o_move rfl .free rfl ?_
            refine o_move rfl .free rfl ?_
            refine o_index rfl rfl rfl (by omega) .free rfl ?_
            refine o_cmp rfl rfl rfl .free rfl ?_
            refine o_done ?_
            first | refine s_if rfl ?_ ?_ | refine s_ifn rfl ?_ ?_ | refine s_cond rfl ?_ ?_
            · intro c5
              refine s_seq ?_
              refine s_freeze ?_
              intro hfz
              refine o_enter rfl ?_
              refine o_load rfl (by first | exact loads_still1 (by assumption) rfl | exact loads_ownS (by first | exact m0 | exact m1 | exact m2 | exact m3 | exact m4 | exact m5 | exact m6) (by rfl) | exact loads_own1 (by first | exact m0 | exact m1 | exact m2 | exact m3 | exact m4 | exact m5 | exact m6) (by rfl) rfl | exact loads_stillS (by assumption) (by rfl) | exact loads_stillF (by assumption) (by rfl) rfl) .free rfl ?_
              refine o_move rfl .free rfl ?_
              refine o_arith rfl rfl rfl (by omega) .free rfl ?_
              refine o_store rfl rfl rfl rfl (by first | rfl | (simp only [List.toList_toArray, List.all_cons, List.all_nil, plainCell_buf, Bool.and_true, Bool.true_and] <;> rfl)) (by first | exact u0 | exact u1 | exact u2 | exact u3 | exact u4 | exact u5 | exact u6) (by rfl) .free ?_
              refine o_assign rfl .free rfl ?_
              refine o_done ?_
              refine s_ret (.cell rfl (by first | exact loads_still1 (by assumption) rfl | exact loads_ownS (by first | exact m0 | exact m1 | exact m2 | exact m3 | exact m4 | exact m5 | exact m6) (by rfl) | exact loads_own1 (by first | exact m0 | exact m1 | exact m2 | exact m3 | exact m4 | exact m5 | exact m6) (by rfl) rfl | exact loads_stillS (by assumption) (by rfl) | exact loads_stillF (by assumption) (by rfl) rfl) (.tmp rfl .nil)) ?_
              refine ⟨_, L, (hle.trans hleJ).trans hfz, fun _ h => h.drop.drop.drop.drop, .node [] (x.ts ++ [t]), _, _, rfl, .mk' hlen' (hrl'.mono hfz) (fun y hy => by cases hy; exact still_set) (by simp) hB'.2.1 (by simp [maxN]) (by unfold maxN; omega), rfl, ?_⟩
              simp only [lform]
              rw [link_last hlink (by simp only; omega) (by simp only [hdd]; exact hpf') hrne (by rw [hhd]; omega)]
              refine ⟨rfl, ?_⟩
              simp only [List.length_drop]; omega
            · intro c5
              refine s_skip ?_
              refine s_seq ?_
              refine o_enter rfl ?_
              refine o_move rfl .free rfl ?_
              refine o_move rfl .free rfl ?_
              refine o_index rfl rfl rfl (by omega) .free rfl ?_
              refine o_cmp rfl rfl rfl .free rfl ?_
              refine o_done ?_
              first | refine s_if rfl ?_ ?_ | refine s_ifn rfl ?_ ?_ | refine s_cond rfl ?_ ?_
              · intro c6
                refine s_seq ?_
                refine s_freeze ?_
                intro hfz
                refine o_enter rfl ?_
                refine o_load rfl (by first | exact loads_still1 (by assumption) rfl | exact loads_ownS (by first | exact m0 | exact m1 | exact m2 | exact m3 | exact m4 | exact m5 | exact m6) (by rfl) | exact loads_own1 (by first | exact m0 | exact m1 | exact m2 | exact m3 | exact m4 | exact m5 | exact m6) (by rfl) rfl | exact loads_stillS (by assumption) (by rfl) | exact loads_stillF (by assumption) (by rfl) rfl) .free rfl ?_
                refine o_store rfl rfl rfl rfl (by first | rfl | (simp only [List.toList_toArray, List.all_cons, List.all_nil, plainCell_buf, Bool.and_true, Bool.true_and] <;> rfl)) (by first | exact u0 | exact u1 | exact u2 | exact u3 | exact u4 | exact u5 | exact u6) (by rfl) .free ?_
                refine o_assign rfl .free rfl ?_
                refine o_done ?_
                refine s_ret (.cell rfl (by first | exact loads_still1 (by assumption) rfl | exact loads_ownS (by first | exact m0 | exact m1 | exact m2 | exact m3 | exact m4 | exact m5 | exact m6) (by rfl) | exact loads_own1 (by first | exact m0 | exact m1 | exact m2 | exact m3 | exact m4 | exact m5 | exact m6) (by rfl) rfl | exact loads_stillS (by assumption) (by rfl) | exact loads_stillF (by assumption) (by rfl) rfl) (.tmp rfl .nil)) ?_
                have hf : pform k (s.drop i) = none := by
                  refine link_fail hlink (by simp only; omega) (.inr ⟨t, r, by simp only [hdd]; exact hpf', .inr ⟨by rw [hhd]; omega, by rw [hhd]; omega⟩⟩)
                exact ⟨_, L, (hle.trans hleJ).trans hfz, fun _ h => h.drop.drop.drop.drop, LR_fail (t := .node [] (x.ts ++ [t])) (.mk' hlen' (hrl'.mono hfz) (fun y hy => by cases hy; exact still_set) (by simp) hB'.2.1 (by simp [maxN]) (by unfold maxN; omega)) hf⟩
              · intro c6
                refine s_skip ?_
                refine s_inBlock ?_
                refine s_mem (fun w h => Mem.sub (L' := (b8, _) :: (b6, _) :: (bb, _) :: L) (by repeat (first | exact List.Sublist.refl _ | apply List.Sublist.cons_cons | apply List.Sublist.cons)) h.f4.f4) (s_env ?_ (ih ⟨J, je, x.m + 1, x.ts ++ [t], some (bb, sp), c', _, x.n - 1⟩ ⟨hle.trans hleJ, hrl', hB', hlen', by simp only; omega, by simp only; omega, by simp only; omega, ?_⟩ (by simp only; omega)))
                · exact ⟨rfl, rfl, rfl, rfl, rfl, trivial⟩
                · have := link_next (I := J) (B := some (bb, sp)) (c := c') (m' := x.m + 1) (xs := x.xs ++ [Value.string (str t.atom), Value.slice oa t.parts.length cc]) hlink (by simp only; omega) (by simp only [hdd]; exact hpf') hrne (by rw [hhd]; omega) (by rw [hhd]; omega)
                  rw [hre] at this
                  exact this

def maxL : Nat := 9223372036854775807
theorem maxN_maxL {n : Nat} (h : n ≤ maxN) : n ≤ maxL := by unfold maxN at h; unfold maxL; omega
theorem g_l1Parse' (s : Txt) (hs : s.length ≤ maxL) (I : Heap) (L : Own) : Fun Try.prog 18 [.string (str s)] I L (RD (parse s) L) := by
  unfold maxL at hs
  refine fun_intro (by simp) ?_
  refine s_seq ?_
  refine o_enter rfl ?_
  refine o_alloc .free rfl ?_
  intro b2
  refine o_assign rfl .free rfl ?_
  refine o_done ?_
  refine s_seq ?_
  refine s_seq ?_
  refine o_enter rfl ?_
  refine o_move rfl .free rfl ?_
  refine o_len_str rfl .free rfl ?_
  refine o_cmp rfl rfl rfl .free rfl ?_
  refine o_done ?_
  first | refine s_if rfl ?_ ?_ | refine s_ifn rfl ?_ ?_ | refine s_cond rfl ?_ ?_
  · intro c0
    refine s_seq ?_
    refine o_enter rfl ?_
    refine o_struct rfl rfl rfl .free rfl ?_
    refine o_store rfl rfl rfl rfl (by first | rfl | (simp only [List.toList_toArray, List.all_cons, List.all_nil, plainCell_buf, Bool.and_true, Bool.true_and] <;> rfl)) (by first | exact u0 | exact u1 | exact u2 | exact u3 | exact u4 | exact u5 | exact u6) (by rfl) .free ?_
    refine o_assign rfl .free rfl ?_
    refine o_done ?_
    refine s_ret (.cell rfl (by first | exact loads_still1 (by assumption) rfl | exact loads_ownS (by first | exact m0 | exact m1 | exact m2 | exact m3 | exact m4 | exact m5 | exact m6) (by rfl) | exact loads_own1 (by first | exact m0 | exact m1 | exact m2 | exact m3 | exact m4 | exact m5 | exact m6) (by rfl) rfl | exact loads_stillS (by assumption) (by rfl) | exact loads_stillF (by assumption) (by rfl) rfl) (.tmp rfl .nil)) ?_
    exact ⟨I, L, .refl _, fun _ h => h.drop, .node [] [], _, false, rfl, Rep.empty I, rfl, by rw [parse, if_pos (by omega)]⟩
  · intro c0
    refine s_skip ?_
    refine s_seq ?_
    refine o_enter rfl ?_
    refine o_move rfl .free rfl ?_
    refine o_call rfl .free rfl (g_l1Read 61 s (by omega) 0 (by omega) 0 rfl _ _) ?_
    rintro _ J _ hleJ ⟨t, cs, e, rfl, hrep, rfl, hpf⟩
    obtain ⟨oa, cc, vs, rfl, -⟩ := hrep.open
    refine o_move rfl .free rfl ?_
    refine o_extract rfl rfl .free rfl ?_
    refine o_extract rfl rfl .free rfl ?_
    refine o_alloc .free rfl ?_
    intro b4
    refine o_store rfl rfl rfl rfl (by first | rfl | (simp only [List.toList_toArray, List.all_cons, List.all_nil, plainCell_buf, Bool.and_true, Bool.true_and] <;> rfl)) (by first | exact u0 | exact u1 | exact u2 | exact u3 | exact u4 | exact u5 | exact u6) (by rfl) .free ?_
    refine o_assign rfl .free rfl ?_
    refine o_done ?_
    refine s_seq ?_
    refine o_enter rfl ?_
    refine o_load rfl (by first | exact loads_still1 (by assumption) rfl | exact loads_ownS (by first | exact m0 | exact m1 | exact m2 | exact m3 | exact m4 | exact m5 | exact m6) (by rfl) | exact loads_own1 (by first | exact m0 | exact m1 | exact m2 | exact m3 | exact m4 | exact m5 | exact m6) (by rfl) rfl | exact loads_stillS (by assumption) (by rfl) | exact loads_stillF (by assumption) (by rfl) rfl) .free rfl ?_
    refine o_move rfl .free rfl ?_
    refine o_move rfl .free rfl ?_
    refine o_len_str rfl .free rfl ?_
    refine o_cmp rfl rfl rfl .free rfl ?_
    refine o_store rfl rfl rfl rfl (by first | rfl | (simp only [List.toList_toArray, List.all_cons, List.all_nil, plainCell_buf, Bool.and_true, Bool.true_and] <;> rfl)) (by first | exact u0 | exact u1 | exact u2 | exact u3 | exact u4 | exact u5 | exact u6) (by rfl) .free ?_
    refine o_assign rfl .free rfl ?_
    refine o_done ?_
    refine s_ret (.cell rfl (by first | exact loads_still1 (by assumption) rfl | exact loads_ownS (by first | exact m0 | exact m1 | exact m2 | exact m3 | exact m4 | exact m5 | exact m6) (by rfl) | exact loads_own1 (by first | exact m0 | exact m1 | exact m2 | exact m3 | exact m4 | exact m5 | exact m6) (by rfl) rfl | exact loads_stillS (by assumption) (by rfl) | exact loads_stillF (by assumption) (by rfl) rfl) (.tmp rfl .nil)) ?_
    refine ⟨J, L, hleJ, fun _ h => h.drop.drop, t, _, _, rfl, hrep, rfl, ?_⟩
    rw [parse, if_neg (by omega)]
    simp only [lform, List.drop_zero] at hpf
    cases hp : pform 60 s with
    | none =>
      rw [hp] at hpf
      simp only at hpf ⊢
      exact decide_eq_false (by omega)
    | some p =>
      obtain ⟨t0, r0⟩ := p
      have hsf := (pform_suffix hp).length_le
      have hlt := pform_len hp
      rw [hp] at hpf
      obtain ⟨rfl, rfl⟩ := hpf
      cases r0 with
      | nil => exact ⟨decide_eq_true (by simp), rfl⟩
      | cons c r0 =>
        simp only [List.length_cons] at hlt hsf ⊢
        exact decide_eq_false (by omega)
theorem g_l1Parse (s : Txt) (hs : s.length ≤ maxN) (I : Heap) (L : Own) : Fun Try.prog 18 [.string (str s)] I L (RD (parse s) L) := g_l1Parse' s (maxN_maxL hs) I L
/-- Is a text a type? -/
def typeOf (s : Txt) : Option Tree := match parse s with
  | some t => bif t.typed then some t else none
  | none => none
end Go.Proofs.Ytekfjhopngcneaa
