
/- How a form is written. No conditions. -/
import Derived.Test.YtekfjhopngcneaaW5
namespace Go.Proofs.Ytekfjhopngcneaa
set_option maxRecDepth 100000
set_option linter.unusedVariables false
set_option linter.unusedSimpArgs false

structure WS where
  i : Nat
  pre : Bool
  B : Buf
  c : Nat
theorem openT_len (ps : List Tree) (i : Nat) : (openT (ps.take i)).length ≤ (openT ps).length := by
  rcases Nat.le_total ps.length i with h | h
  · rw [List.take_of_length_le h]; exact Nat.le_refl _
  · cases ps with
    | nil => simp
    | cons t ts =>
      cases i with
      | zero => simp [openT]
      | succ i =>
        have := textL_append (ts.take i) (ts.drop i)
        rw [List.take_append_drop] at this
        simp [openT, this]
theorem f_form_write : ∀ (n : Nat) {I : Heap} {t : Tree} {cs : List Value} (_ : SizeOf.sizeOf t < n) (_ : Rep I t cs) (b : Nat) (pre : Bool) (xs : Txt) (B : Buf) (c : Nat) (_ : BOk xs B c) (_ : xs.length + t.text.length ≤ maxN) (L : Own),
    Fun Try.prog 38 [.agg cs.toArray, .pointer (some ⟨b, 0, none⟩)] I (bld b pre xs B c L)
    (fun v I' L' => v = .tuple #[] ∧ I = I' ∧ ∃ B' c', BOk (xs ++ t.text) B' c' ∧ L' = bld b true (xs ++ t.text) B' c' L) := by
  intro n
  induction n with
  | zero => intro I t cs h; omega
  | succ n ihn =>
    intro I t cs hlt h b pre xs B c hB hz L
    obtain ⟨oa, cc, vs, rfl, hl, hs, hn, hc, ha, hp⟩ := h.open
    unfold maxN at hp
    refine fun_intro (by simp) ?_
    refine s_seq ?_
    refine o_enter rfl ?_
    refine o_box rfl rfl .free rfl ?_
    intro b2
    refine o_done ?_
    refine s_seq ?_
    refine s_seq ?_
    refine o_enter rfl ?_
    refine o_load rfl (by first | exact loads_still1 (by assumption) rfl | exact loads_ownS (by first | exact m0 | exact m1 | exact m2 | exact m3 | exact m4 | exact m5 | exact m6) (by rfl) | exact loads_own1 (by first | exact m0 | exact m1 | exact m2 | exact m3 | exact m4 | exact m5 | exact m6) (by rfl) rfl | exact loads_stillS (by assumption) (by rfl) | exact loads_stillF (by assumption) (by rfl) rfl) .free rfl ?_
    refine o_call rfl .free rfl (f_form_isAtom h _) ?_
    rintro _ _ _ _ ⟨rfl, rfl, rfl⟩
    refine o_done ?_
    first | refine s_if rfl ?_ ?_ | refine s_ifn rfl ?_ ?_ | refine s_cond rfl ?_ ?_
    · intro c0
      have hta := t.text_atom (by simpa using c0)
      refine s_seq ?_
      refine o_enter rfl ?_
      refine o_move rfl .free rfl ?_
      first | refine o_fieldAddr rfl .free rfl ?_ | refine o_fieldAddr' rfl .free rfl ?_
      refine o_load rfl (by first | exact loads_still1 (by assumption) rfl | exact loads_ownS (by first | exact m0 | exact m1 | exact m2 | exact m3 | exact m4 | exact m5 | exact m6) (by rfl) | exact loads_own1 (by first | exact m0 | exact m1 | exact m2 | exact m3 | exact m4 | exact m5 | exact m6) (by rfl) rfl | exact loads_stillS (by assumption) (by rfl) | exact loads_stillF (by assumption) (by rfl) rfl) .free rfl ?_
      refine o_mem (fun w h => Mem.bl1 h) ?_
      refine o_call rfl .free rfl (f_strings_Builder_WriteString b pre xs B c t.atom hB (by rw [← hta]; exact hz) _ _) ?_
      rintro _ _ _ _ ⟨rfl, rfl, B1, c1, hB1, rfl⟩
      refine o_done ?_
      refine s_ret .nil ?_
      exact ⟨I, _, .refl _, fun w h => (Mem.br1 h).drop, rfl, rfl, B1, c1, by rw [hta]; exact hB1, by rw [hta]; rfl⟩
    · intro c0
      have hne : t.parts ≠ [] := by simpa using c0
      have htx := t.text_eq hne
      have hz' := hz
      rw [htx] at hz'
      simp only [List.length_append, List.length_cons, List.length_nil] at hz'
      refine s_skip ?_
      refine s_seq ?_
      refine s_seq ?_
      refine o_enter rfl ?_
      first | refine o_fieldAddr rfl .free rfl ?_ | refine o_fieldAddr' rfl .free rfl ?_
      refine o_load rfl (by first | exact loads_still1 (by assumption) rfl | exact loads_ownS (by first | exact m0 | exact m1 | exact m2 | exact m3 | exact m4 | exact m5 | exact m6) (by rfl) | exact loads_own1 (by first | exact m0 | exact m1 | exact m2 | exact m3 | exact m4 | exact m5 | exact m6) (by rfl) rfl | exact loads_stillS (by assumption) (by rfl) | exact loads_stillF (by assumption) (by rfl) rfl) .free rfl ?_
      refine o_len_slice rfl .free rfl ?_
      refine o_move rfl .free rfl ?_
      refine o_done ?_
      refine s_block ?_
      refine s_while (X := WS) (fun x => t.parts.length - x.i) (fun x => [(1, .pointer (some ⟨b, 0, none⟩)), (13, .slice oa t.parts.length cc), (14, .int .i64 (t.parts.length : Nat)), (15, .int .i64 (x.i : Nat))]) (fun _ => I) (fun x => bld b x.pre (xs ++ openT (t.parts.take x.i)) x.B x.c L)
        (fun x => x.i ≤ t.parts.length ∧ BOk (xs ++ openT (t.parts.take x.i)) x.B x.c ∧ (x.i = t.parts.length → x.pre = true)) ⟨0, pre, B, c⟩ ⟨by simp, by simpa [openT] using hB, fun hh => by simp only at hh; exact absurd (List.length_eq_zero_iff.1 hh.symm) hne⟩ ⟨rfl, rfl, rfl, rfl, trivial⟩ (fun w hh => by simpa [openT] using hh.drop) ?_
      rintro x ⟨hi, hxB, hxp⟩ ih
      refine s_seq ?_
      refine o_enter rfl ?_
      refine o_cmp rfl rfl rfl .free rfl ?_
      refine o_done ?_
      refine s_seq ?_
      first | refine s_if rfl ?_ ?_ | refine s_ifn rfl ?_ ?_ | refine s_cond rfl ?_ ?_
      · intro c1
        obtain ⟨x', hx, oa', c', hr, hst⟩ := Rep.at hl hs hn x.i (by omega)
        have htk := openT_take t.parts x.i (by omega)
        have hlk := openT_len t.parts (x.i + 1)
        rw [htk] at hlk
        simp only [List.length_append, List.length_cons] at hlk
        refine s_skip ?_
        refine s_seq ?_
        refine s_block ?_
        refine s_seq ?_
        refine o_enter rfl ?_
        refine o_move rfl .free rfl ?_
        refine o_indexAddr' rfl rfl _ rfl (by first | omega | exact lt_of (by assumption) (by decide) | (simp; done) | (simp; omega) | decide | (simp at *; omega)) (by first | rfl | assumption) .free rfl ?_
        refine o_load rfl (by first | exact loads_still1 (by assumption) rfl | exact loads_ownS (by first | exact m0 | exact m1 | exact m2 | exact m3 | exact m4 | exact m5 | exact m6) (by rfl) | exact loads_own1 (by first | exact m0 | exact m1 | exact m2 | exact m3 | exact m4 | exact m5 | exact m6) (by rfl) rfl | exact loads_stillS (by assumption) (by rfl) | exact loads_stillF (by assumption) (by rfl) rfl) .free rfl ?_
        refine o_alloc .free rfl ?_
        intro b5
        refine o_assign rfl .free rfl ?_
        refine o_store rfl rfl rfl rfl (by first | rfl | (simp only [List.toList_toArray, List.all_cons, List.all_nil, plainCell_buf, Bool.and_true, Bool.true_and] <;> rfl)) (by first | exact u0 | exact u1 | exact u2 | exact u3 | exact u4 | exact u5 | exact u6) (by rfl) .free ?_
        refine o_done ?_
        refine s_seq ?_
        refine s_seq ?_
        refine o_enter rfl ?_
        refine o_move rfl .free rfl ?_
        refine o_cmp rfl rfl rfl .free rfl ?_
        refine o_done ?_
        first | refine s_if rfl ?_ ?_ | refine s_ifn rfl ?_ ?_ | refine s_cond rfl ?_ ?_
        · intro c2
          refine o_enter rfl ?_
          refine o_move rfl .free rfl ?_
          refine o_mem (fun w h => Mem.bl1 h) ?_
          refine o_call rfl .free rfl (f_strings_Builder_WriteByte b x.pre _ x.B x.c 40 hxB (by rw [List.length_append]; unfold maxN at *; omega) _ _) ?_
          rintro _ _ _ _ ⟨rfl, rfl, B1, c1, hB1, rfl⟩
          have e : xs ++ openT (t.parts.take (x.i + 1)) = xs ++ openT (t.parts.take x.i) ++ [40] ++ t.parts[x.i].text := by rw [htk, if_pos (by omega)]; simp
          refine o_mem (fun w h => Mem.br1 h) ?_
          refine o_done ?_
          refine o_enter rfl ?_
          refine o_load rfl (by first | exact loads_still1 (by assumption) rfl | exact loads_ownS (by first | exact m0 | exact m1 | exact m2 | exact m3 | exact m4 | exact m5 | exact m6) (by rfl) | exact loads_own1 (by first | exact m0 | exact m1 | exact m2 | exact m3 | exact m4 | exact m5 | exact m6) (by rfl) rfl | exact loads_stillS (by assumption) (by rfl) | exact loads_stillF (by assumption) (by rfl) rfl) .free rfl ?_
          refine o_move rfl .free rfl ?_
          refine o_mem (fun w h => Mem.bl1 h) ?_
          refine o_call rfl .free rfl (ihn (by have := t.part_lt x.i (by omega); omega) hr b true _ B1 c1 hB1 (by simp only [List.length_append, List.length_cons, List.length_nil]; unfold maxN at *; omega) _) ?_
          rintro _ _ _ _ ⟨rfl, rfl, B2, c2', hB2, rfl⟩
          refine o_mem (fun w h => (Mem.br1 h).drop) ?_
          refine o_done ?_
          refine s_inBlock ?_
          refine o_enter rfl ?_
          refine o_arith rfl rfl rfl (by omega) .free rfl ?_
          refine o_move rfl .free rfl ?_
          refine o_done ?_
          refine s_mem (fun w hh => ?_) (s_env (E' := [(1, .pointer (some ⟨b, 0, none⟩)), (13, .slice oa t.parts.length cc), (14, .int .i64 (t.parts.length : Nat)), (15, .int .i64 ((x.i + 1 : Nat)))]) ⟨rfl, rfl, rfl, rfl, trivial⟩ (ih ⟨x.i + 1, true, B2, c2'⟩ ⟨by simp only; omega, by simp only; rw [e]; exact hB2, fun _ => rfl⟩ (by simp only; omega)))
          simp only; rw [e]; exact hh
        · intro c2
          refine o_enter rfl ?_
          refine o_move rfl .free rfl ?_
          refine o_mem (fun w h => Mem.bl1 h) ?_
          refine o_call rfl .free rfl (f_strings_Builder_WriteByte b x.pre _ x.B x.c 32 hxB (by rw [List.length_append]; unfold maxN at *; omega) _ _) ?_
          rintro _ _ _ _ ⟨rfl, rfl, B1, c1, hB1, rfl⟩
          have e : xs ++ openT (t.parts.take (x.i + 1)) = xs ++ openT (t.parts.take x.i) ++ [32] ++ t.parts[x.i].text := by rw [htk, if_neg (by omega)]; simp
          refine o_mem (fun w h => Mem.br1 h) ?_
          refine o_done ?_
          refine o_enter rfl ?_
          refine o_load rfl (by first | exact loads_still1 (by assumption) rfl | exact loads_ownS (by first | exact m0 | exact m1 | exact m2 | exact m3 | exact m4 | exact m5 | exact m6) (by rfl) | exact loads_own1 (by first | exact m0 | exact m1 | exact m2 | exact m3 | exact m4 | exact m5 | exact m6) (by rfl) rfl | exact loads_stillS (by assumption) (by rfl) | exact loads_stillF (by assumption) (by rfl) rfl) .free rfl ?_
          refine o_move rfl .free rfl ?_
          refine o_mem (fun w h => Mem.bl1 h) ?_
          refine o_call rfl .free rfl (ihn (by have := t.part_lt x.i (by omega); omega) hr b true _ B1 c1 hB1 (by simp only [List.length_append, List.length_cons, List.length_nil]; unfold maxN at *; omega) _) ?_
          rintro _ _ _ _ ⟨rfl, rfl, B2, c2', hB2, rfl⟩
          refine o_mem (fun w h => (Mem.br1 h).drop) ?_
          refine o_done ?_
          refine s_inBlock ?_
          refine o_enter rfl ?_
          refine o_arith rfl rfl rfl (by omega) .free rfl ?_
          refine o_move rfl .free rfl ?_
          refine o_done ?_
          refine s_mem (fun w hh => ?_) (s_env (E' := [(1, .pointer (some ⟨b, 0, none⟩)), (13, .slice oa t.parts.length cc), (14, .int .i64 (t.parts.length : Nat)), (15, .int .i64 ((x.i + 1 : Nat)))]) ⟨rfl, rfl, rfl, rfl, trivial⟩ (ih ⟨x.i + 1, true, B2, c2'⟩ ⟨by simp only; omega, by simp only; rw [e]; exact hB2, fun _ => rfl⟩ (by simp only; omega)))
          simp only; rw [e]; exact hh
      · intro c1
        have hxi : x.i = t.parts.length := by omega
        rw [hxi, List.take_length] at hxB
        refine s_exit rfl ?_
        rw [hxi, List.take_length]
        refine o_enter rfl ?_
        refine o_move rfl .free rfl ?_
        refine o_call rfl .free rfl (f_strings_Builder_WriteByte b x.pre _ x.B x.c 41 hxB (by rw [List.length_append]; unfold maxN at *; omega) _ _) ?_
        rintro _ _ _ _ ⟨rfl, rfl, B1, c1, hB1, rfl⟩
        refine o_done ?_
        refine s_end .nil ?_
        refine ⟨I, _, .refl _, fun w h => h, rfl, rfl, B1, c1, ?_, ?_⟩
        · rw [htx, ← List.append_assoc]; exact hB1
        · rw [htx, ← List.append_assoc]

theorem f_form_text {I : Heap} {t : Tree} {cs : List Value} (h : Rep I t cs) (hz : t.text.length ≤ maxN) (L : Own) : Fun Try.prog 17 [.agg cs.toArray] I L (Only (.string (str t.text)) I L) := by
  obtain ⟨oa, c, vs, rfl, hl, hs, hn, hc, ha, hp⟩ := h.open
  refine fun_intro (by simp) ?_
  refine s_seq ?_
  refine o_enter rfl ?_
  refine o_box rfl rfl .free rfl ?_
  intro b1
  refine o_assign rfl .free rfl ?_
  refine o_done ?_
  refine s_seq ?_
  refine o_enter rfl ?_
  refine o_alloc .free rfl ?_
  intro b3
  refine o_done ?_
  refine s_seq ?_
  refine o_enter rfl ?_
  refine o_load rfl (by first | exact loads_still1 (by assumption) rfl | exact loads_ownS (by first | exact m0 | exact m1 | exact m2 | exact m3 | exact m4 | exact m5 | exact m6) (by rfl) | exact loads_own1 (by first | exact m0 | exact m1 | exact m2 | exact m3 | exact m4 | exact m5 | exact m6) (by rfl) rfl | exact loads_stillS (by assumption) (by rfl) | exact loads_stillF (by assumption) (by rfl) rfl) .free rfl ?_
  refine o_mem (fun w hh => Mem.f1 hh) ?_
  refine o_mem (L' := bld b3 false [] none 0 _) (fun w hh => Mem.f1 hh) ?_
  refine o_call rfl .free rfl (f_form_write _ (Nat.lt_succ_self _) h b3 false [] none 0 ⟨⟨rfl, rfl, rfl⟩, .inl rfl⟩ (by simpa using hz) _) ?_
  rintro _ _ _ _ ⟨rfl, rfl, B1, c1, hB1, rfl⟩
  refine o_done ?_
  refine s_seq ?_
  refine o_enter rfl ?_
  refine o_call rfl .free rfl (f_strings_Builder_String b3 true _ B1 c1 hB1 (by simpa using hz) _ _) ?_
  rintro _ _ _ _ ⟨rfl, rfl, rfl⟩
  refine o_assign rfl .free rfl ?_
  refine o_done ?_
  refine s_ret (.tmp rfl .nil) ?_
  refine done_only rfl (by intro _ h; first | exact h | exact dr1 h | exact dr2 h | exact dr3 h | exact dr4 h | exact dr5 h | exact dr6 h) ?_
  simp [retOne, *]
end Go.Proofs.Ytekfjhopngcneaa
