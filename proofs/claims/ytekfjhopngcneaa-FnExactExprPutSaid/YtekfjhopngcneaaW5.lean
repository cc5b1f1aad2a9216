
/- What the library's Builder holds after each call; how a form is written. No conditions. -/
import Derived.Test.YtekfjhopngcneaaW4
import Derived.Test.YtekfjhopngcneaaOps2
namespace Go.Proofs.Ytekfjhopngcneaa
set_option maxRecDepth 100000
set_option linter.unusedVariables false
set_option linter.unusedSimpArgs false

def BOk (xs : Txt) (B : Buf) (c : Nat) : Prop := BufOk 1 xs.length c (xs.map bv) B ∧ (B = none ∨ xs ≠ [])
/-- A Builder and its buffer. -/
def bld (b : Nat) (pre : Bool) (xs : Txt) (B : Buf) (c : Nat) (L : Own) : Own :=
  (b, .cells [.pointer (bif pre then some ⟨b, 0, none⟩ else none), bufVal xs.length c B].toArray 60 (0, 0)) :: (bufOwn 5 (xs.map bv) B ++ L)

theorem f_strings_Builder_copyCheck (b : Nat) (pre : Bool) (v2 : Value) (I : Heap) (L : Own) : Fun Try.prog 62 [.pointer (some ⟨b, 0, none⟩)] I
    ((b, .cells [.pointer (bif pre then some ⟨b, 0, none⟩ else none), v2].toArray 60 (0, 0)) :: L)
    (fun v I' L' => v = .tuple #[] ∧ I = I' ∧ L' = (b, .cells [.pointer (some ⟨b, 0, none⟩), v2].toArray 60 (0, 0)) :: L) := by
  cases pre with
  | true =>
    refine fun_intro (by simp) ?_
    refine s_seq ?_
    refine o_enter rfl ?_
    refine o_move rfl .free rfl ?_
    refine o_nilCheck rfl .free rfl ?_
    first | refine o_fieldAddr rfl .free rfl ?_ | refine o_fieldAddr' rfl .free rfl ?_
    refine o_load rfl (by first | exact loads_still1 (by assumption) rfl | exact loads_ownS (by first | exact m0 | exact m1 | exact m2 | exact m3 | exact m4 | exact m5 | exact m6) (by rfl) | exact loads_own1 (by first | exact m0 | exact m1 | exact m2 | exact m3 | exact m4 | exact m5 | exact m6) (by rfl) rfl | exact loads_stillS (by assumption) (by rfl) | exact loads_stillF (by assumption) (by rfl) rfl) .free rfl ?_
    refine o_eqlnil rfl rfl .free rfl ?_
    refine o_done ?_
    first | refine s_fp rfl (by simp) ?_ | refine s_fn rfl (by simp) ?_ | refine s_false (by simp [look, opd, *]) ?_
    refine s_seq ?_
    refine o_enter rfl ?_
    refine o_move rfl .free rfl ?_
    refine o_nilCheck rfl .free rfl ?_
    first | refine o_fieldAddr rfl .free rfl ?_ | refine o_fieldAddr' rfl .free rfl ?_
    refine o_load rfl (by first | exact loads_still1 (by assumption) rfl | exact loads_ownS (by first | exact m0 | exact m1 | exact m2 | exact m3 | exact m4 | exact m5 | exact m6) (by rfl) | exact loads_own1 (by first | exact m0 | exact m1 | exact m2 | exact m3 | exact m4 | exact m5 | exact m6) (by rfl) rfl | exact loads_stillS (by assumption) (by rfl) | exact loads_stillF (by assumption) (by rfl) rfl) .free rfl ?_
    refine o_move rfl .free rfl ?_
    refine o_neqself rfl rfl .free rfl ?_
    refine o_done ?_
    first | refine s_fp rfl (by simp) ?_ | refine s_fn rfl (by simp) ?_ | refine s_false (by simp [look, opd, *]) ?_
    refine s_skip ?_
    refine s_end .nil ?_
    exact ⟨I, _, .refl _, fun _ h => h, rfl, rfl, rfl⟩
  | false =>
    refine fun_intro (by simp) ?_
    refine s_seq ?_
    refine o_enter rfl ?_
    refine o_move rfl .free rfl ?_
    refine o_nilCheck rfl .free rfl ?_
    first | refine o_fieldAddr rfl .free rfl ?_ | refine o_fieldAddr' rfl .free rfl ?_
    refine o_load rfl (by first | exact loads_still1 (by assumption) rfl | exact loads_ownS (by first | exact m0 | exact m1 | exact m2 | exact m3 | exact m4 | exact m5 | exact m6) (by rfl) | exact loads_own1 (by first | exact m0 | exact m1 | exact m2 | exact m3 | exact m4 | exact m5 | exact m6) (by rfl) rfl | exact loads_stillS (by assumption) (by rfl) | exact loads_stillF (by assumption) (by rfl) rfl) .free rfl ?_
    refine o_eqlnil rfl rfl .free rfl ?_
    refine o_done ?_
    first | refine s_tp rfl (by simp) ?_ | refine s_tn rfl (by simp) ?_ | refine s_true (by simp [look, opd, *]) ?_
    refine o_enter rfl ?_
    refine o_move rfl .free rfl ?_
    refine o_move rfl .free rfl ?_
    refine o_toUnsafe rfl (.head _) (by decide) (by simp) .free rfl ?_
    refine o_extern (fn := Try.f67) (e := Extern.AbiNoEscape.same) Try.func67 (by kernel_rfl) (by kernel_rfl) (by kernel_rfl) (by kernel_rfl) (fun w => Lib.run_noEscape w _) rfl .free rfl ?_
    refine o_fromUnsafe rfl (.head _) (by kernel_rfl) .free rfl ?_
    refine o_nilCheck rfl .free rfl ?_
    first | refine o_fieldAddr rfl .free rfl ?_ | refine o_fieldAddr' rfl .free rfl ?_
    refine o_store rfl rfl rfl rfl (by first | rfl | (simp only [List.toList_toArray, List.all_cons, List.all_nil, plainCell_buf, Bool.and_true, Bool.true_and] <;> rfl)) (by first | exact u0 | exact u1 | exact u2 | exact u3 | exact u4 | exact u5 | exact u6) (by rfl) .free ?_
    refine o_done ?_
    refine s_end .nil ?_
    exact ⟨I, _, .refl _, fun _ h => h, rfl, rfl, rfl⟩

theorem f_strings_Builder_WriteString (b : Nat) (pre : Bool) (xs : Txt) (B : Buf) (c : Nat) (s : Txt) (hB : BOk xs B c) (hs : xs.length + s.length ≤ maxN) (I : Heap) (L : Own) :
    Fun Try.prog 53 [.pointer (some ⟨b, 0, none⟩), .string (str s)] I (bld b pre xs B c L)
    (fun v I' L' => v = .tuple #[.int .i64 (s.length : Nat), .nilIface] ∧ I = I' ∧ ∃ B' c', BOk (xs ++ s) B' c' ∧ L' = bld b true (xs ++ s) B' c' L) := by
  unfold maxN at hs
  refine fun_intro (by simp) ?_
  refine s_seq ?_
  refine o_enter rfl ?_
  refine o_assign rfl .free rfl ?_
  refine o_assign rfl .free rfl ?_
  refine o_done ?_
  refine s_seq ?_
  refine o_enter rfl ?_
  refine o_move rfl .free rfl ?_
  refine o_call rfl .free rfl (f_strings_Builder_copyCheck b pre _ _ _) ?_
  rintro _ _ _ _ ⟨rfl, rfl, rfl⟩
  refine o_done ?_
  refine s_seq ?_
  refine o_enter rfl ?_
  refine o_move rfl .free rfl ?_
  refine o_move rfl .free rfl ?_
  refine o_nilCheck rfl .free rfl ?_
  first | refine o_fieldAddr rfl .free rfl ?_ | refine o_fieldAddr' rfl .free rfl ?_
  refine o_load rfl (by first | exact loads_still1 (by assumption) rfl | exact loads_ownS (by first | exact m0 | exact m1 | exact m2 | exact m3 | exact m4 | exact m5 | exact m6) (by rfl) | exact loads_own1 (by first | exact m0 | exact m1 | exact m2 | exact m3 | exact m4 | exact m5 | exact m6) (by rfl) rfl | exact loads_stillS (by assumption) (by rfl) | exact loads_stillF (by assumption) (by rfl) rfl) .free rfl ?_
  refine o_move rfl .free rfl ?_
  refine o_appendStr (B := B) (xs := xs.map bv) (s := s) (m := xs.length) (c := c) (by rfl) rfl rfl hB.1 (fun _ h => h.u1) (by omega) (by decide) .free rfl ?_
  intro B' c' hB' hne hsame
  refine o_mem (fun w h => h.perm (List.perm_middle (l₁ := bufOwn _ _ B'))) ?_
  refine o_nilCheck rfl .free rfl ?_
  first | refine o_fieldAddr rfl .free rfl ?_ | refine o_fieldAddr' rfl .free rfl ?_
  refine o_store rfl rfl valCells_buf rfl (by first | rfl | (simp only [List.toList_toArray, List.all_cons, List.all_nil, plainCell_buf, Bool.and_true, Bool.true_and] <;> rfl)) (by first | exact u0 | exact u1 | exact u2 | exact u3 | exact u4 | exact u5 | exact u6) (by rfl) .free ?_
  refine o_done ?_
  refine s_seq ?_
  refine o_enter rfl ?_
  refine o_move rfl .free rfl ?_
  refine o_len_str rfl .free rfl ?_
  refine o_assign rfl .free rfl ?_
  refine o_assign rfl .free rfl ?_
  refine o_done ?_
  refine s_ret (.tmp rfl (.tmp rfl .nil)) ?_
  refine ⟨I, _, .refl _, fun _ h => h, rfl, rfl, B', c', ⟨by simpa using hB', ?_⟩, by simp [bld]⟩
  by_cases hs0 : s = []
  · subst hs0; rw [hsame rfl]; simpa using hB.2
  · exact .inr (by simp [hs0])
theorem f_strings_Builder_WriteByte (b : Nat) (pre : Bool) (xs : Txt) (B : Buf) (c : Nat) (u : UInt8) (hB : BOk xs B c) (hs : xs.length + 1 ≤ maxN) (I : Heap) (L : Own) :
    Fun Try.prog 54 [.pointer (some ⟨b, 0, none⟩), .int .u8 (u.toNat : Nat)] I (bld b pre xs B c L)
    (fun v I' L' => v = .nilIface ∧ I = I' ∧ ∃ B' c', BOk (xs ++ [u]) B' c' ∧ L' = bld b true (xs ++ [u]) B' c' L) := by
  unfold maxN at hs
  refine fun_intro (by simp) ?_
  refine s_seq ?_
  refine o_enter rfl ?_
  refine o_assign rfl .free rfl ?_
  refine o_done ?_
  refine s_seq ?_
  refine o_enter rfl ?_
  refine o_move rfl .free rfl ?_
  refine o_call rfl .free rfl (f_strings_Builder_copyCheck b pre _ _ _) ?_
  rintro _ _ _ _ ⟨rfl, rfl, rfl⟩
  refine o_done ?_
  refine s_seq ?_
  refine o_enter rfl ?_
  refine o_move rfl .free rfl ?_
  refine o_move rfl .free rfl ?_
  refine o_nilCheck rfl .free rfl ?_
  first | refine o_fieldAddr rfl .free rfl ?_ | refine o_fieldAddr' rfl .free rfl ?_
  refine o_load rfl (by first | exact loads_still1 (by assumption) rfl | exact loads_ownS (by first | exact m0 | exact m1 | exact m2 | exact m3 | exact m4 | exact m5 | exact m6) (by rfl) | exact loads_own1 (by first | exact m0 | exact m1 | exact m2 | exact m3 | exact m4 | exact m5 | exact m6) (by rfl) rfl | exact loads_stillS (by assumption) (by rfl) | exact loads_stillF (by assumption) (by rfl) rfl) .free rfl ?_
  refine o_move rfl .free rfl ?_
  refine o_lits rfl rfl (by rfl) (by rfl) (by rfl) (by decide) (by decide) (by rfl) .free rfl ?_
  intro b13
  refine o_append (B := B) (xs := xs.map bv) (ys := [bv u]) (m := xs.length) (c := c) (by intro kk; simp) (by rfl) rfl rfl hB.1 (fun _ h => h.u2) (by rfl) (fun a ha => by cases ha; exact reads_ownL (.head _) (by rfl)) (by simp) (by rfl) (by decide) (by decide) (by omega) (by decide) .free rfl ?_
  intro bb sp c' hB'
  refine o_nilCheck rfl .free rfl ?_
  first | refine o_fieldAddr rfl .free rfl ?_ | refine o_fieldAddr' rfl .free rfl ?_
  refine o_store rfl rfl rfl rfl (by first | rfl | (simp only [List.toList_toArray, List.all_cons, List.all_nil, plainCell_buf, Bool.and_true, Bool.true_and] <;> rfl)) (by first | exact u0 | exact u1 | exact u2 | exact u3 | exact u4 | exact u5 | exact u6) (by rfl) .free ?_
  refine o_done ?_
  refine s_seq ?_
  refine o_enter rfl ?_
  refine o_assign rfl .free rfl ?_
  refine o_done ?_
  refine s_ret (.tmp rfl .nil) ?_
  refine ⟨I, _, .refl _, fun w h => Mem.sub (L' := (b, _) :: (bb, _) :: L) (by repeat (first | exact List.Sublist.refl _ | apply List.Sublist.cons_cons | apply List.Sublist.cons)) h.f2, rfl, rfl, some (bb, sp), c', ⟨by simpa using hB', .inr (by simp)⟩, by simp [bld, bufOwn, bufVal]⟩
theorem f_strings_Builder_String (b : Nat) (pre : Bool) (xs : Txt) (B : Buf) (c : Nat) (hB : BOk xs B c) (hs : xs.length ≤ maxN) (I : Heap) (L : Own) :
    Fun Try.prog 39 [.pointer (some ⟨b, 0, none⟩)] I (bld b pre xs B c L) (Only (.string (str xs)) I L) := by
  unfold maxN at hs
  cases B with
  | none =>
    obtain ⟨⟨h1, h2, h3⟩, _⟩ := hB
    obtain rfl : xs = [] := by simpa using h1
    refine fun_intro (by simp) ?_
    refine s_seq ?_
    refine o_enter rfl ?_
    refine o_assign rfl .free rfl ?_
    refine o_done ?_
    refine s_seq ?_
    refine d_all 12 rfl rfl ?_
    refine d_takeA 0 rfl (by kernel_rfl) rfl (.inr heldx) (y_move rfl) .free rfl ?_
    refine d_takeA 1 rfl (by kernel_rfl) rfl (.inr heldx) (y_nilCheck rfl) .free rfl ?_
    first | refine d_takeA 2 rfl (by kernel_rfl) rfl (.inr heldx) (y_fieldAddr rfl) .free rfl ?_ | refine d_takeA 2 rfl (by kernel_rfl) rfl (.inr heldx) (y_fieldAddr' rfl) .free rfl ?_
    refine d_take 3 [12] rfl (by kernel_rfl) rfl heldx (y_load rfl (by first | exact loads_still1 (by assumption) rfl | exact loads_ownS (by first | exact m0 | exact m1 | exact m2 | exact m3 | exact m4 | exact m5 | exact m6) (by rfl) | exact loads_own1 (by first | exact m0 | exact m1 | exact m2 | exact m3 | exact m4 | exact m5 | exact m6) (by rfl) rfl | exact loads_stillS (by assumption) (by rfl) | exact loads_stillF (by assumption) (by rfl) rfl)) .free rfl ?_
    refine d_takeA 4 rfl (by kernel_rfl) rfl (.inr heldx) (y_sliceData0 rfl) .free rfl ?_
    refine d_takeA 5 rfl (by kernel_rfl) rfl (.inr heldx) (y_move rfl) .free rfl ?_
    refine d_takeA 6 rfl (by kernel_rfl) rfl (.inr heldx) (y_nilCheck rfl) .free rfl ?_
    first | refine d_takeA 7 rfl (by kernel_rfl) rfl (.inr heldx) (y_fieldAddr rfl) .free rfl ?_ | refine d_takeA 7 rfl (by kernel_rfl) rfl (.inr heldx) (y_fieldAddr' rfl) .free rfl ?_
    refine d_take 8 [12] rfl (by kernel_rfl) rfl heldx (y_load rfl (by first | exact loads_still1 (by assumption) rfl | exact loads_ownS (by first | exact m0 | exact m1 | exact m2 | exact m3 | exact m4 | exact m5 | exact m6) (by rfl) | exact loads_own1 (by first | exact m0 | exact m1 | exact m2 | exact m3 | exact m4 | exact m5 | exact m6) (by rfl) rfl | exact loads_stillS (by assumption) (by rfl) | exact loads_stillF (by assumption) (by rfl) rfl)) .free rfl ?_
    refine d_takeA 9 rfl (by kernel_rfl) rfl (.inr heldx) (y_len_slice rfl) .free rfl ?_
    refine d_takeA 10 rfl (by kernel_rfl) rfl (.inr heldx) (y_unsafeString0 rfl rfl) .free rfl ?_
    refine d_takeA 11 rfl (by kernel_rfl) rfl (.inr heldx) (y_assign rfl) .free rfl ?_
    refine d_done (by kernel_rfl) ?_
    refine s_ret (.tmp rfl .nil) ?_
    refine done_only rfl (by intro _ h; first | exact h | exact dr1 h | exact dr2 h | exact dr3 h | exact dr4 h | exact dr5 h | exact dr6 h) ?_
    simp [retOne, *]
  | some p =>
    obtain ⟨bb, sp⟩ := p
    have hne : xs ≠ [] := by rcases hB.2 with h | h <;> simp_all
    have hpos := List.length_pos_iff.2 hne
    have hc := hB.1.2.1
    refine fun_intro (by simp) ?_
    refine s_seq ?_
    refine o_enter rfl ?_
    refine o_assign rfl .free rfl ?_
    refine o_done ?_
    refine s_seq ?_
    simp only [bld, bufOwn, List.cons_append, List.nil_append]
    refine d_with I ((b, .cells [.pointer (bif pre then some ⟨b, 0, none⟩ else none), bufVal xs.length c (some (bb, sp))].toArray 60 (0, 0)) :: L) 12 rfl rfl ?_
    refine d_takeA 0 rfl (by kernel_rfl) rfl (.inr heldx) (y_move rfl) .free rfl ?_
    refine d_takeA 1 rfl (by kernel_rfl) rfl (.inr heldx) (y_nilCheck rfl) .free rfl ?_
    first | refine d_takeA 2 rfl (by kernel_rfl) rfl (.inr heldx) (y_fieldAddr rfl) .free rfl ?_ | refine d_takeA 2 rfl (by kernel_rfl) rfl (.inr heldx) (y_fieldAddr' rfl) .free rfl ?_
    refine d_take 3 [12] rfl (by kernel_rfl) rfl heldx (y_load rfl (by first | exact loads_still1 (by assumption) rfl | exact loads_ownS (by first | exact m0 | exact m1 | exact m2 | exact m3 | exact m4 | exact m5 | exact m6) (by rfl) | exact loads_own1 (by first | exact m0 | exact m1 | exact m2 | exact m3 | exact m4 | exact m5 | exact m6) (by rfl) rfl | exact loads_stillS (by assumption) (by rfl) | exact loads_stillF (by assumption) (by rfl) rfl)) .free rfl ?_
    refine d_takeA 4 rfl (by kernel_rfl) rfl (.inr heldx) (y_sliceData rfl (by omega)) .free rfl ?_
    refine d_takeA 5 rfl (by kernel_rfl) rfl (.inr heldx) (y_move rfl) .free rfl ?_
    refine d_takeA 6 rfl (by kernel_rfl) rfl (.inr heldx) (y_nilCheck rfl) .free rfl ?_
    first | refine d_takeA 7 rfl (by kernel_rfl) rfl (.inr heldx) (y_fieldAddr rfl) .free rfl ?_ | refine d_takeA 7 rfl (by kernel_rfl) rfl (.inr heldx) (y_fieldAddr' rfl) .free rfl ?_
    refine d_take 8 [12] rfl (by kernel_rfl) rfl heldx (y_load rfl (by first | exact loads_still1 (by assumption) rfl | exact loads_ownS (by first | exact m0 | exact m1 | exact m2 | exact m3 | exact m4 | exact m5 | exact m6) (by rfl) | exact loads_own1 (by first | exact m0 | exact m1 | exact m2 | exact m3 | exact m4 | exact m5 | exact m6) (by rfl) rfl | exact loads_stillS (by assumption) (by rfl) | exact loads_stillF (by assumption) (by rfl) rfl)) .free rfl ?_
    refine d_takeA 9 rfl (by kernel_rfl) rfl (.inr heldx) (y_len_slice rfl) .free rfl ?_
    refine d_unsafeString 10 rfl (by kernel_rfl) rfl rfl rfl (by kernel_rfl) hne (by omega) (fun _ h => h.f1) (.inr heldx) .free rfl ?_
    refine d_takeA 11 rfl (by kernel_rfl) rfl (.inr heldx) (y_assign rfl) .free rfl ?_
    refine d_done (by kernel_rfl) ?_
    refine s_ret (.tmp rfl .nil) ?_
    refine done_only rfl (by intro _ h; first | exact h | exact dr1 h | exact dr2 h | exact dr3 h | exact dr4 h | exact dr5 h | exact dr6 h) ?_
    simp [retOne, *]
end Go.Proofs.Ytekfjhopngcneaa
