/- What reading a whole text returns. No conditions. -/
import Derived.Test.YtfddjcmeejjhiaaGreatDoorG3
import Derived.Lib.Builder
import Derived.Lib.UnsafeStr
import Derived.Laws.MakeOwn
namespace Go.Proofs.YtfddjcmeejjhiaaGreatDoor
set_option maxRecDepth 100000
set_option linter.unusedVariables false
set_option linter.unusedSimpArgs false

/-- What 'read' returns: a form, whatever the text, and whether it is the text's. -/
def RD (p : Option Tree) (L : Own) : Post := fun v I' L' => ∃ t cs ok, v = .tuple #[.agg cs.toArray, .bool ok] ∧ Rep I' t cs ∧ L = L' ∧
  (match p with
   | some t0 => ok = true ∧ t = t0
   | none => ok = false)

theorem f_read (s : Txt) (hs : s.length ≤ maxN) (I : Heap) (L : Own) : Fun Tryz.prog 74 [.string (str s)] I L (RD (parse s) L) := by
 unfold maxN at hs
 refine fun_intro (by simp) ?_
 refine Se rfl ?_
 refine o_alloc .free rfl ?_
 intro b2
 refine Oa rfl (o_done (s_seq (Se rfl (Om rfl ?_))))
 refine o_len_str rfl .free rfl ?_
 refine Oc rfl rfl rfl (o_done ?_)
 refine Si rfl ?_ ?_
 ·intro c0
  refine Se rfl ?_
  refine o_struct rfl rfl rfl .free rfl ?_
  refine o_st rfl rfl rfl rfl .free ?_
  refine Oa rfl (o_done ?_)
  refine s_ret (.c rfl (.tmp rfl .nil)) ?_
  exact ⟨I, L, .refl _, fun _ h => h.drop, .node [] [], _, false, rfl, Rep.empty I, rfl, by rw [parse, if_pos (by omega)]⟩
 intro c0
 refine s_skip (Se rfl (Om rfl ?_))
 refine o_call rfl .free rfl (f_readForm 60 s (by omega) 0 rfl _ _) ?_
 rintro _ J _ hleJ ⟨t, cs, r, ok, rfl, hrep, rfl, hrlen, hpf⟩
 obtain ⟨oa, cc, vs, rfl, -⟩ := hrep.open
 refine Om rfl ?_
 iterate 3 refine Oe rfl rfl ?_
 refine o_alloc .free rfl ?_
 intro b4
 refine o_st rfl rfl rfl rfl .free ?_
 refine Oa rfl (Oa rfl (o_done (Se rfl ?_)))
 refine o_lS rfl .free rfl ?_
 refine Om rfl (Om rfl ?_)
 first | refine g_if rfl rfl ?_ ?_ | refine g_ifn rfl rfl ?_ ?_ | refine g_b rfl rfl ?_ ?_
 ·intro g4_3
  refine Ow rfl ?_
  refine o_cmps rfl rfl rfl (.met rfl rfl) rfl ?_
  refine Ot rfl rfl ?_
  refine o_st rfl rfl rfl rfl .free ?_
  refine Oa rfl (o_done ?_)
  refine s_ret (.c rfl (.tmp rfl .nil)) ?_
  refine ⟨J, L, hleJ, fun _ h => h.drop.drop, t, _, _, rfl, hrep, rfl, ?_⟩
  rw [parse, if_neg (by omega)]
  cases hp : pform 60 s with
  | none => simp_all
  | some p =>
   obtain ⟨t0, r0⟩ := p
   rw [hp] at hpf
   obtain ⟨rfl, rfl, rfl⟩ := hpf
   cases r <;> simp_all
 intro g4_3
 refine o_skip rfl rfl rfl ?_
 refine o_skip rfl rfl rfl ?_
 refine Of rfl rfl ?_
 refine o_st rfl rfl rfl rfl .free ?_
 refine Oa rfl (o_done ?_)
 refine s_ret (.c rfl (.tmp rfl .nil)) ?_
 refine ⟨J, L, hleJ, fun _ h => h.drop.drop, t, _, _, rfl, hrep, rfl, ?_⟩
 rw [parse, if_neg (by omega)]
 cases hp : pform 60 s with
 | none => simp_all
 | some p =>
  obtain ⟨t0, r0⟩ := p
  rw [hp] at hpf
  obtain ⟨rfl, rfl, rfl⟩ := hpf
  cases r <;> simp_all

/-- What 'readType' returns. -/
def RT (p : Option Tree) (L : Own) : Post := fun v I' L' => ∃ t cs ok, v = .tuple #[.agg cs.toArray, .bool ok] ∧ Rep I' t cs ∧ L = L' ∧
  (match p with
   | some t0 => ok = t0.typed ∧ t = t0
   | none => ok = false)

/-- What 'l1Read' returns: where the form ends, or -1. -/
def LR (s : Txt) (p : Option (Tree × Txt)) (L : Own) : Post := fun v I' L' => ∃ t cs e, v = .tuple #[.agg cs.toArray, .int .i64 e] ∧ Rep I' t cs ∧ L = L' ∧
  (match p with
   | some (t0, r0) => t = t0 ∧ e = ((s.length - r0.length : Nat) : Int)
   | none => e = -1)
def lform : Nat → Txt → Option (Tree × Txt)
 | 0, _ => none
 | k + 1, s => pform k s
theorem lform_suffix {k : Nat} {s : Txt} {t : Tree} {r : Txt} (h : lform k s = some (t, r)) : r <:+ s := by
 cases k with
 | zero => cases h
 | succ k => exact pform_suffix h
theorem lform_len {k : Nat} {s : Txt} {t : Tree} {r : Txt} (h : lform k s = some (t, r)) : r.length < s.length := by
 cases k with
 | zero => cases h
 | succ k => exact pform_len h
theorem partsBy_none : ∀ (n : Nat) (s : Txt), partsBy (fun _ => none) n s = none
 | 0, _ => rfl
 | n + 1, s => rfl
theorem pform_paren' {k : Nat} {s : Txt} (h : (s.getD 0 0).toNat = 40) : pform k s = (match partsBy (lform k) s.length (s.drop 1) with
  | some (ts, r) => some (.node [] ts, r)
  | none => none) := by
 cases k with
 | zero => rw [pform_zero h, show lform 0 = fun _ => none from rfl, partsBy_none]
 | succ k => exact pform_paren h
structure LS where
 I : Heap
 i : Nat
 m : Nat
 ts : List Tree
 B : Buf
 c : Nat
 xs : List Value
 n : Nat
/-- The link of a loop over parts by indexes to that over what is left. -/
def LRInv (k : Nat) (s : Txt) (i₀ : Nat) (I₀ : Heap) (x : LS) : Prop := HLe I₀ x.I ∧ RepL x.I x.ts x.xs ∧ BufOk 2 x.m x.c x.xs x.B ∧ x.m = x.ts.length ∧ x.i < s.length ∧ s.length - x.i ≤ x.n ∧ x.m + (s.length - x.i) ≤ s.length ∧
 Link (lform k) (pform k (s.drop i₀)) ⟨x.I, s.drop x.i, x.m, x.ts, x.B, x.c, x.xs, x.n⟩
theorem getD_drop (s : Txt) (i n : Nat) : (s.drop i).getD n 0 = s.getD (i + n) 0 := by simp [List.getD_eq_getElem?_getD, List.getElem?_drop]
theorem LR_fail {s : Txt} {p : Option (Tree × Txt)} {t : Tree} {cs : List Value} {I : Heap} {L : Own} (hr : Rep I t cs) (hp : p = none) : LR s p L (.tuple #[.agg cs.toArray, .int .i64 (-1)]) I L :=
 ⟨t, cs, -1, rfl, hr, rfl, by rw [hp]⟩

theorem g_l1Read : ∀ (k : Nat) (s : Txt) (_ : s.length ≤ 12000) (i : Nat) (_ : i ≤ s.length) (depth : Nat) (_ : depth + k = 61) (I : Heap) (L : Own),
  Fun Tryz.prog 112 [.string (str s), .int .i64 (i : Nat), .int .i64 (depth : Nat)] I L (LR s (lform k (s.drop i)) L) := by
 intro k
 induction k with
 | zero =>
  intro s hsl i hi depth hdeep I L
  refine fun_intro (by simp) ?_
  refine Se rfl ?_
  refine o_alloc .free rfl ?_
  intro b6
  refine Oa rfl (o_done (Se rfl ?_))
  refine o_struct rfl rfl rfl .free rfl ?_
  refine o_alloc .free rfl ?_
  intro b8
  refine o_st rfl rfl rfl rfl .free ?_
  refine o_done (s_seq (Se rfl (Om rfl (Oc rfl rfl rfl (Om rfl ?_)))))
  first | refine g_tp rfl rfl (by omega) ?_ | refine g_tn rfl rfl (by omega) ?_
  iterate 4 refine o_skip rfl rfl rfl ?_
  refine Ot rfl rfl (o_done ?_)
  refine s_true rfl ?_
  refine Se rfl ?_
  refine o_lS rfl .free rfl ?_
  refine o_st rfl rfl rfl rfl .free ?_
  refine Oa rfl (o_done ?_)
  refine s_ret (.c rfl (.tmp rfl .nil)) ?_
  exact ⟨I, L, .refl _, fun _ h => h.drop.drop, .node [] [], _, -1, rfl, Rep.empty I, rfl, rfl⟩
 | succ k ihk =>
  intro s hsl i hi depth hdeep I L
  refine fun_intro (by simp) ?_
  refine Se rfl ?_
  refine o_alloc .free rfl ?_
  intro b6
  refine Oa rfl (o_done (Se rfl ?_))
  refine o_struct rfl rfl rfl .free rfl ?_
  refine o_alloc .free rfl ?_
  intro b8
  refine o_st rfl rfl rfl rfl .free ?_
  refine o_done (s_seq (Se rfl (Om rfl (Oc rfl rfl rfl (Om rfl ?_)))))
  first | refine g_fp rfl rfl (by omega) ?_ | refine g_fn rfl rfl (by omega) ?_
  refine Ow rfl (Ow rfl ?_)
  refine o_len_str rfl (.met rfl rfl) rfl ?_
  refine o_cmp rfl rfl rfl (.met rfl rfl) rfl ?_
  refine Of rfl rfl (o_done ?_)
  refine Si rfl ?_ ?_
  ·intro c0
   refine Se rfl ?_
   refine o_lS rfl .free rfl ?_
   refine o_st rfl rfl rfl rfl .free ?_
   refine Oa rfl (o_done ?_)
   refine s_ret (.c rfl (.tmp rfl .nil)) ?_
   exact ⟨I, L, .refl _, fun _ h => h.drop.drop, LR_fail (Rep.empty I) (by simp only [lform]; rw [List.drop_eq_nil_of_le (by omega)]; cases k <;> rfl)⟩
  intro c0
  refine s_skip (s_seq (Se rfl (Om rfl (Om rfl ?_))))
  refine o_index rfl rfl rfl (by first | omega | exact lt_of (by assumption) (by decide) | (simp; done) | (simp; omega) | decide | (simp at *; omega)) .free rfl ?_
  refine Oc rfl rfl rfl (o_done ?_)
  refine Si rfl ?_ ?_
  ·intro c1
   have h40 : ((s.drop i).getD 0 0).toNat ≠ 40 := by rw [getD_drop]; simp only [Nat.add_zero]; omega
   refine Se rfl (Om rfl (Oa rfl (o_done (s_seq (s_block ?_)))))
   refine s_while (X := Nat) (fun n => s.length - i - n) (fun n => [(0, .string (str s)), (1, .int .i64 ((i + n : Nat))), (6, .pointer (some ⟨b6, 0, none⟩)), (8, .pointer (some ⟨b8, 0, none⟩)), (9, .int .i64 (i : Nat))]) (fun _ => I)
    (fun _ => (b8, .cells [.string (str []), .slice none 0 0].toArray 46 (0, 0)) :: (b6, .cells [.string (str []), .slice none 0 0].toArray 46 (0, 0)) :: L) (fun n => i + n ≤ s.length ∧ ((s.drop i).take n).all abyte = true) 0 ⟨by omega, by simp⟩ ⟨rfl, rfl, rfl, rfl, rfl, trivial⟩ (fun _ h => h) ?_
   rintro n ⟨hn, hall⟩ ih
   refine s_seq (Se rfl (Om rfl (Om rfl ?_)))
   refine o_len_str rfl .free rfl ?_
   refine Oc rfl rfl rfl (Om rfl ?_)
   first | refine g_if rfl rfl ?_ ?_ | refine g_ifn rfl rfl ?_ ?_ | refine g_b rfl rfl ?_ ?_
   ·intro g6_5
    refine Ow rfl (Ow rfl ?_)
    refine o_index rfl rfl rfl (by first | omega | exact lt_of (by assumption) (by decide) | (simp; done) | (simp; omega) | decide | (simp at *; omega)) (.met rfl rfl) rfl ?_
    refine o_call rfl (.met rfl rfl) rfl (g_l1Byte _ _ _) ?_
    rintro _ _ _ _ ⟨rfl, rfl, rfl⟩
    refine Ot rfl rfl (o_done ?_)
    refine Si rfl ?_ ?_
    ·intro c2
     refine s_skip (s_block (o_enter rfl (Om rfl ?_)))
     refine Or rfl rfl rfl ?_
     refine Oa rfl (o_done (s_inBlock ?_))
     refine s_env (E' := [(0, .string (str s)), (1, .int .i64 ((i + (n + 1) : Nat))), (6, .pointer (some ⟨b6, 0, none⟩)), (8, .pointer (some ⟨b8, 0, none⟩)), (9, .int .i64 (i : Nat))]) ⟨rfl, rfl, rfl, rfl, rfl, trivial⟩ (ih (n + 1) ⟨by omega, take_all hall (by rw [List.length_drop]; omega) (by rw [getD_drop]; assumption)⟩ (by omega))
    intro c2
    refine s_exit rfl ?_
    refine s_seq ?_
    have htw := takeWhile_at (n := n) hall (by first | exact .inl (by rw [List.length_drop]; omega) | exact .inr ⟨by rw [List.length_drop]; omega, by rw [getD_drop]; assumption⟩)
    have hpo := pform_open (k := k) h40
    rw [htw.1, htw.2] at hpo
    have hdt : (s.take (i + n)).drop i = (s.drop i).take n := by rw [List.drop_take]; congr 1; omega
    refine o_enter rfl ?_
    iterate 3 refine Om rfl ?_
    refine o_slice_str rfl rfl rfl i (i + n) rfl rfl (by omega) .free rfl ?_
    rw [hdt]
    first | refine Oh rfl ?_ | refine Oj rfl ?_
    refine o_st rfl rfl rfl rfl .free ?_
    refine o_done (s_seq (Se rfl ?_))
    first | refine Oh rfl ?_ | refine Oj rfl ?_
    refine o_lS rfl .free rfl ?_
    refine Od rfl rfl rfl (o_done ?_)
    refine Si rfl ?_ ?_
    ·intro c3
     refine Se rfl ?_
     refine o_lS rfl .free rfl ?_
     refine o_st rfl rfl rfl rfl .free ?_
     refine Oa rfl (o_done ?_)
     refine s_ret (.c rfl (.tmp rfl .nil)) ?_
     exact ⟨I, L, .refl _, fun _ h => h.drop.drop, LR_fail (.ofAtom (by unfold maxN; simp; omega)) (by simp only [lform]; rw [hpo, if_pos (by assumption)])⟩
    intro c3
    refine s_skip (Se rfl ?_)
    refine o_lS rfl .free rfl ?_
    refine Om rfl ?_
    refine o_st rfl rfl rfl rfl .free ?_
    refine Oa rfl (o_done ?_)
    refine s_ret (.c rfl (.tmp rfl .nil)) ?_
    refine ⟨I, L, .refl _, fun _ h => h.drop.drop, .node ((s.drop i).take n) [], _, _, rfl, .ofAtom (by unfold maxN; simp; omega), rfl, ?_⟩
    simp only [lform]; rw [hpo, if_neg (by assumption)]
    refine ⟨rfl, ?_⟩
    simp only [List.length_drop]; omega
   intro g6_5
   iterate 4 refine o_skip rfl rfl rfl ?_
   refine Of rfl rfl (o_done ?_)
   refine s_false rfl ?_
   refine s_exit rfl ?_
   refine s_seq ?_
   have htw := takeWhile_at (n := n) hall (by first | exact .inl (by rw [List.length_drop]; omega) | exact .inr ⟨by rw [List.length_drop]; omega, by rw [getD_drop]; assumption⟩)
   have hpo := pform_open (k := k) h40
   rw [htw.1, htw.2] at hpo
   have hdt : (s.take (i + n)).drop i = (s.drop i).take n := by rw [List.drop_take]; congr 1; omega
   refine o_enter rfl ?_
   iterate 3 refine Om rfl ?_
   refine o_slice_str rfl rfl rfl i (i + n) rfl rfl (by omega) .free rfl ?_
   rw [hdt]
   first | refine Oh rfl ?_ | refine Oj rfl ?_
   refine o_st rfl rfl rfl rfl .free ?_
   refine o_done (s_seq (Se rfl ?_))
   first | refine Oh rfl ?_ | refine Oj rfl ?_
   refine o_lS rfl .free rfl ?_
   refine Od rfl rfl rfl (o_done ?_)
   refine Si rfl ?_ ?_
   ·intro c3
    refine Se rfl ?_
    refine o_lS rfl .free rfl ?_
    refine o_st rfl rfl rfl rfl .free ?_
    refine Oa rfl (o_done ?_)
    refine s_ret (.c rfl (.tmp rfl .nil)) ?_
    exact ⟨I, L, .refl _, fun _ h => h.drop.drop, LR_fail (.ofAtom (by unfold maxN; simp; omega)) (by simp only [lform]; rw [hpo, if_pos (by assumption)])⟩
   intro c3
   refine s_skip (Se rfl ?_)
   refine o_lS rfl .free rfl ?_
   refine Om rfl ?_
   refine o_st rfl rfl rfl rfl .free ?_
   refine Oa rfl (o_done ?_)
   refine s_ret (.c rfl (.tmp rfl .nil)) ?_
   refine ⟨I, L, .refl _, fun _ h => h.drop.drop, .node ((s.drop i).take n) [], _, _, rfl, .ofAtom (by unfold maxN; simp; omega), rfl, ?_⟩
   simp only [lform]; rw [hpo, if_neg (by assumption)]
   refine ⟨rfl, ?_⟩
   simp only [List.length_drop]; omega
  intro c1
  refine s_skip (s_block ?_)
  have hi' : i < s.length := by omega
  refine s_while (X := LS) (fun x => s.length - x.i) (fun x => [(0, .string (str s)), (1, .int .i64 (x.i : Nat)), (2, .int .i64 (depth : Nat)), (6, .pointer (some ⟨b6, 0, none⟩)), (8, .pointer (some ⟨b8, 0, none⟩))]) (fun x => x.I)
   (fun x => (b8, .cells [.string (str []), bufVal x.m x.c x.B].toArray 46 (0, 0)) :: (b6, .cells [.string (str []), .slice none 0 0].toArray 46 (0, 0)) :: (bufOwn 46 x.xs x.B ++ L)) (LRInv k s i I) ⟨I, i, 0, [], none, 0, [], s.length - i⟩
   ⟨.refl _, .nil, ⟨rfl, rfl, rfl⟩, rfl, hi', Nat.le_refl _, by simp, by
    have := pform_paren' (k := k) (s := s.drop i) (by rw [getD_drop]; simp only [Nat.add_zero]; omega)
    rw [List.length_drop] at this
    unfold Link
    split <;> simp_all⟩ ⟨rfl, rfl, rfl, rfl, rfl, trivial⟩ (fun _ h => h) ?_
  rintro x ⟨hle, hrl, hB, hxm, hxi, hxn, hxt, hlink⟩ ih
  refine s_block (Se rfl (Om rfl (Om rfl ?_)))
  refine Or rfl rfl rfl ?_
  refine Om rfl ?_
  refine Or rfl rfl rfl ?_
  refine o_call rfl .free rfl (ihk s hsl (x.i + 1) (by omega) (depth + 1) (by omega) _ _) ?_
  rintro _ J _ hleJ ⟨t, cs, e, rfl, hrep, rfl, hpf⟩
  obtain ⟨oa, cc, vs, rfl, -⟩ := hrep.open
  have hdd : (s.drop x.i).drop 1 = s.drop (x.i + 1) := by rw [List.drop_drop]
  obtain ⟨je, hje⟩ : ∃ je : Nat, e = je ∨ e = -1 := by
   cases hp : lform k (s.drop (x.i + 1)) with
   | none => rw [hp] at hpf; exact ⟨0, .inr hpf⟩
   | some p => rw [hp] at hpf; exact ⟨_, .inl hpf.2⟩
  refine Om rfl (Oe rfl rfl (Oe rfl rfl ?_))
  refine o_alloc .free rfl ?_
  intro b10
  refine o_st rfl rfl rfl rfl .free ?_
  refine Oa rfl (o_done (s_seq (Se rfl (Om rfl (Oc rfl rfl rfl (Om rfl ?_))))))
  first | refine g_if rfl rfl ?_ ?_ | refine g_ifn rfl rfl ?_ ?_ | refine g_b rfl rfl ?_ ?_
  ·intro g13_3
   iterate 4 refine o_skip rfl rfl rfl ?_
   refine Ot rfl rfl (o_done ?_)
   refine s_true rfl ?_
   refine s_seq ?_
   refine s_mem (fun w h => h.u3) (s_freezeBuf (a := []) (hrl.mono hleJ) hB hxm (by simp [maxN]) (by unfold maxN; omega) ?_)
   intro J2 hle2 hrep2
   refine o_enter rfl ?_
   refine o_lS rfl .free rfl ?_
   refine o_st rfl rfl rfl rfl .free ?_
   refine Oa rfl (o_done ?_)
   refine s_ret (.c rfl (.tmp rfl .nil)) ?_
   have hf : pform k (s.drop i) = none := by
    refine link_fail hlink (by simp only; omega) ?_
    simp only [hdd]
    cases hp : lform k (s.drop (x.i + 1)) with
    | none => exact .inl rfl
    | some p =>
     obtain ⟨t0, r0⟩ := p
     rw [hp] at hpf
     refine .inr ⟨t0, r0, rfl, .inl ?_⟩
     have h2 := hpf.2
     apply List.eq_nil_of_length_eq_zero
     omega
   exact ⟨J2, L, (hle.trans hleJ).trans hle2, fun _ h => h.drop.drop.drop, LR_fail hrep2 hf⟩
  intro g13_3
  refine Ow rfl (Ow rfl ?_)
  refine o_len_str rfl (.met rfl rfl) rfl ?_
  refine o_cmp rfl rfl rfl (.met rfl rfl) rfl ?_
  refine Of rfl rfl (o_done ?_)
  refine Si rfl ?_ ?_
  ·intro c4
   refine s_seq ?_
   refine s_mem (fun w h => h.u3) (s_freezeBuf (a := []) (hrl.mono hleJ) hB hxm (by simp [maxN]) (by unfold maxN; omega) ?_)
   intro J2 hle2 hrep2
   refine o_enter rfl ?_
   refine o_lS rfl .free rfl ?_
   refine o_st rfl rfl rfl rfl .free ?_
   refine Oa rfl (o_done ?_)
   refine s_ret (.c rfl (.tmp rfl .nil)) ?_
   have hf : pform k (s.drop i) = none := by
    refine link_fail hlink (by simp only; omega) ?_
    simp only [hdd]
    cases hp : lform k (s.drop (x.i + 1)) with
    | none => exact .inl rfl
    | some p =>
     obtain ⟨t0, r0⟩ := p
     rw [hp] at hpf
     refine .inr ⟨t0, r0, rfl, .inl ?_⟩
     have h2 := hpf.2
     apply List.eq_nil_of_length_eq_zero
     omega
   exact ⟨J2, L, (hle.trans hleJ).trans hle2, fun _ h => h.drop.drop.drop, LR_fail hrep2 hf⟩
  intro c4
  refine s_skip (s_seq ?_)
  obtain rfl : e = je := by omega
  obtain ⟨r, hpf', hre, hrne⟩ : ∃ r, lform k (s.drop (x.i + 1)) = some (t, r) ∧ r = s.drop je ∧ r ≠ [] := by
   cases hp : lform k (s.drop (x.i + 1)) with
   | none => rw [hp] at hpf; omega
   | some p =>
    obtain ⟨t0, r0⟩ := p
    rw [hp] at hpf
    obtain ⟨rfl, h2⟩ := hpf
    have hsf := lform_suffix hp
    have h3 := suffix_drop (hsf.trans (List.drop_suffix _ _))
    have h4 := hsf.length_le
    rw [List.length_drop] at h4
    have h5 : je = s.length - r0.length := by omega
    refine ⟨r0, rfl, by rw [h5]; exact h3, ?_⟩
    intro e; subst e; simp at h5; omega
  have hrl0 : r.length = s.length - je := by rw [hre]; simp
  have hrpos := List.length_pos_iff.2 hrne
  have hrlt : x.i + 1 < je := by have := lform_len hpf'; rw [List.length_drop] at this; omega
  refine o_enter rfl ?_
  first | refine Oh rfl ?_ | refine Oj rfl ?_
  refine o_lS rfl .free rfl ?_
  refine o_lS rfl .free rfl ?_
  refine Ol rfl rfl ?_
  intro b71
  refine o_append (B := x.B) (xs := x.xs) (ys := [.string (str t.atom), .slice oa t.parts.length cc]) (m := x.m) (c := x.c) (by intro kk; simp) (by rfl) rfl rfl hB (fun _ h => h.u4) (by rfl) (fun a ha => by cases ha; exact reads_ownL (.head _) (by rfl)) (by simp) (by rfl) (by decide) (by decide) (by omega) (by decide) .free rfl ?_
  intro bb sp c' hB'
  first | refine Oh rfl ?_ | refine Oj rfl ?_
  refine o_st rfl rfl rfl rfl .free ?_
  have hrl' : RepL J (x.ts ++ [t]) (x.xs ++ [Value.string (str t.atom), Value.slice oa t.parts.length cc]) := (hrl.mono hleJ).append (.cons hrep .nil)
  have hlen' : x.m + 1 = (x.ts ++ [t]).length := by simp [hxm]
  have hhd : r.getD 0 0 = s.getD je 0 := by rw [hre, getD_drop]; rfl
  refine o_done (Se rfl (Om rfl (Oa rfl (o_done (s_seq (Se rfl (Om rfl (Om rfl ?_))))))))
  refine o_index rfl rfl rfl (by omega) .free rfl ?_
  refine Oc rfl rfl rfl (o_done ?_)
  refine Si rfl ?_ ?_
  ·intro c5
   refine s_seq ?_
   refine s_freeze ?_
   intro hfz
   refine o_enter rfl ?_
   refine o_lS rfl .free rfl ?_
   refine Om rfl ?_
   refine Or rfl rfl rfl ?_
   refine o_st rfl rfl rfl rfl .free ?_
   refine Oa rfl (o_done ?_)
   refine s_ret (.c rfl (.tmp rfl .nil)) ?_
   refine ⟨_, L, (hle.trans hleJ).trans hfz, fun _ h => h.drop.drop.drop.drop, .node [] (x.ts ++ [t]), _, _, rfl, .mk' hlen' (hrl'.mono hfz) (fun y hy => by cases hy; exact still_set) (by simp) hB'.2.1 (by simp [maxN]) (by unfold maxN; omega), rfl, ?_⟩
   simp only [lform]
   rw [link_last hlink (by simp only; omega) (by simp only [hdd]; exact hpf') hrne (by rw [hhd]; omega)]
   refine ⟨rfl, ?_⟩
   simp only [List.length_drop]; omega
  intro c5
  refine s_skip (Se rfl (Om rfl (Om rfl ?_)))
  refine o_index rfl rfl rfl (by omega) .free rfl ?_
  refine Oc rfl rfl rfl (o_done ?_)
  refine Si rfl ?_ ?_
  ·intro c6
   refine s_seq ?_
   refine s_freeze ?_
   intro hfz
   refine o_enter rfl ?_
   refine o_lS rfl .free rfl ?_
   refine o_st rfl rfl rfl rfl .free ?_
   refine Oa rfl (o_done ?_)
   refine s_ret (.c rfl (.tmp rfl .nil)) ?_
   have hf : pform k (s.drop i) = none := by
    refine link_fail hlink (by simp only; omega) (.inr ⟨t, r, by simp only [hdd]; exact hpf', .inr ⟨by rw [hhd]; omega, by rw [hhd]; omega⟩⟩)
   exact ⟨_, L, (hle.trans hleJ).trans hfz, fun _ h => h.drop.drop.drop.drop, LR_fail (t := .node [] (x.ts ++ [t])) (.mk' hlen' (hrl'.mono hfz) (fun y hy => by cases hy; exact still_set) (by simp) hB'.2.1 (by simp [maxN]) (by unfold maxN; omega)) hf⟩
  intro c6
  refine s_skip (s_inBlock ?_)
  refine s_mem (fun w h => Mem.sub (L' := (b8, _) :: (b6, _) :: (bb, _) :: L) (by repeat (first | exact List.Sublist.refl _ | apply List.Sublist.cons_cons | apply List.Sublist.cons)) h.f4.f4) (s_env ?_ (ih ⟨J, je, x.m + 1, x.ts ++ [t], some (bb, sp), c', _, x.n - 1⟩ ⟨hle.trans hleJ, hrl', hB', hlen', by simp only; omega, by simp only; omega, by simp only; omega, ?_⟩ (by simp only; omega)))
  ·exact ⟨rfl, rfl, rfl, rfl, rfl, trivial⟩
  ·have := link_next (I := J) (B := some (bb, sp)) (c := c') (m' := x.m + 1) (xs := x.xs ++ [Value.string (str t.atom), Value.slice oa t.parts.length cc]) hlink (by simp only; omega) (by simp only [hdd]; exact hpf') hrne (by rw [hhd]; omega) (by rw [hhd]; omega)
   rw [hre] at this
   exact this

def maxL : Nat := 9223372036854775807
theorem maxN_maxL {n : Nat} (h : n ≤ maxN) : n ≤ maxL := by unfold maxN at h; unfold maxL; omega
theorem g_l1Parse' (s : Txt) (hs : s.length ≤ maxL) (I : Heap) (L : Own) : Fun Tryz.prog 65 [.string (str s)] I L (RD (parse s) L) := by
 unfold maxL at hs
 refine fun_intro (by simp) ?_
 refine Se rfl ?_
 refine o_alloc .free rfl ?_
 intro b2
 refine Oa rfl (o_done (s_seq (Se rfl (Om rfl ?_))))
 refine o_len_str rfl .free rfl ?_
 refine Oc rfl rfl rfl (o_done ?_)
 refine Si rfl ?_ ?_
 ·intro c0
  refine Se rfl ?_
  refine o_struct rfl rfl rfl .free rfl ?_
  refine o_st rfl rfl rfl rfl .free ?_
  refine Oa rfl (o_done ?_)
  refine s_ret (.c rfl (.tmp rfl .nil)) ?_
  exact ⟨I, L, .refl _, fun _ h => h.drop, .node [] [], _, false, rfl, Rep.empty I, rfl, by rw [parse, if_pos (by omega)]⟩
 intro c0
 refine s_skip (Se rfl (Om rfl ?_))
 refine o_call rfl .free rfl (g_l1Read 61 s (by omega) 0 (by omega) 0 rfl _ _) ?_
 rintro _ J _ hleJ ⟨t, cs, e, rfl, hrep, rfl, hpf⟩
 obtain ⟨oa, cc, vs, rfl, -⟩ := hrep.open
 refine Om rfl (Oe rfl rfl (Oe rfl rfl ?_))
 refine o_alloc .free rfl ?_
 intro b4
 refine o_st rfl rfl rfl rfl .free ?_
 refine Oa rfl (o_done (Se rfl ?_))
 refine o_lS rfl .free rfl ?_
 refine Om rfl (Om rfl ?_)
 refine o_len_str rfl .free rfl ?_
 refine Oc rfl rfl rfl ?_
 refine o_st rfl rfl rfl rfl .free ?_
 refine Oa rfl (o_done ?_)
 refine s_ret (.c rfl (.tmp rfl .nil)) ?_
 refine ⟨J, L, hleJ, fun _ h => h.drop.drop, t, _, _, rfl, hrep, rfl, ?_⟩
 rw [parse, if_neg (by omega)]
 simp only [lform, List.drop_zero] at hpf
 cases hp : pform 60 s with
 | none =>
  rw [hp] at hpf
  simp only at hpf ⊢
  exact decide_eq_false (by omega)
 | some p =>
  obtain ⟨t0, r0⟩ := p
  have hsf := (pform_suffix hp).length_le
  have hlt := pform_len hp
  rw [hp] at hpf
  obtain ⟨rfl, rfl⟩ := hpf
  cases r0 with
  | nil => exact ⟨decide_eq_true (by simp), rfl⟩
  | cons c r0 =>
   simp only [List.length_cons] at hlt hsf ⊢
   exact decide_eq_false (by omega)
/-- Is a text a type? -/
def typeOf (s : Txt) : Option Tree := match parse s with
 | some t => bif t.typed then some t else none
 | none => none
section rules
variable {P : Program} {f : FuncId} {n : Nat} {I₀ : Heap} {Q : Post} {k : List Item} {E : Env} {I : Heap} {L : Own}
variable {ops : Array Oper} {d : Nat} {ty : TypeId} {pos : String} {af : Array Edge} {g : Option (Nat × Bool)} {l : List Oper}

theorem s_end {c : Code} {rs : List ResultVar} {vs : List Value} {m : Nat} [hf : FnIs P f c m rs] (hr : RetOk P E I L rs vs)
  (hp : ∃ I' L', HLe I₀ I' ∧ (∀ w, Mem I L w → Mem I' L' w) ∧ Q (retOne vs) I' L') : RunS P f n I₀ Q [] E I L := by
 obtain ⟨fn, hfn, _, _, hrs, _⟩ := hf.get
 intro a w ha hd he hm cs
 obtain ⟨I', L', hle, hmm, hq⟩ := hp
 refine ⟨.returned (retOne vs), w, _, ⟨_, I', L', rfl, hle, hmm w hm, hq⟩, .one step_end, rfl, rfl, hd, rfl, fn, hfn, ?_⟩
 have h1 := retRun hr he hm
 have h2 : (fn.results.mapM (fun | .tmp t => pure (a.tmps.getD t undef) | .cell b t => do loadVar t (← asAddr (a.tmps.getD b undef)) : ResultVar → Sem Value)).run P w = .ok vs.toArray w := by
  rw [hrs, List.mapM_toArray]
  exact run_bind_ok h1
 unfold results
 rw [show ((base f).at a []).tmps = a.tmps from rfl]
 refine Eq.trans (run_bind_ok h2) ?_
 cases vs with
 | nil => rfl
 | cons v vs =>
  cases vs with
  | nil => rfl
  | cons u us => simp [retOne, run_pure]

theorem y_nilCheck {S : World → Prop} {x : Operand} {a : Addr} (hx : opd E x = some (.pointer (some a))) : Yld P E S ⟨some d, .nilCheck x, ty, pos, af, g⟩ (.pointer (some a)) := fun ac w he _ => by
 simp only [execOp, he.eval hx]; rfl
theorem o_nilCheck {x : Operand} {a : Addr} (hx : opd E x = some (.pointer (some a))) (hg : Wants ops E g) (hdn : Nat.blt d n = true) (h : RunO P f n I₀ Q ops l k ((d, .pointer (some a)) :: E) I L) :
  RunO P f n I₀ Q ops (⟨some d, .nilCheck x, ty, pos, af, g⟩ :: l) k E I L := o_yld (y_nilCheck hx) hg hdn h

theorem run_eqGuard_ptr {op : BinOp} {T : TypeId} {x y : Operand} {a b : Option Addr} (w : World) : (eqGuard op T x y (.pointer a) (.pointer b)).run P w = .ok () w := by
 unfold eqGuard; split <;> rfl
theorem y_eqlnil {S : World → Prop} {T T' e sz bb : Nat} {z : List Value} [ht : TyIs P T (.pointer e) sz bb z] {x y : Operand} {oa : Option Addr} (hx : opd E x = some (.pointer oa)) (hy : opd E y = some (.pointer none)) :
  Yld P E S ⟨some d, .binOp .eql T x y T', ty, pos, af, g⟩ (.bool oa.isNone) := fun ac w he _ => by
 simp only [execOp, he.eval hx, he.eval hy]
 refine run_bind_ok (a := _) (w' := w) ?_ |>.trans rfl
 rw [run_bind_ok (run_eqGuard_ptr w)]
 have h : ∀ d : Nat, (Op.equalIn (d + 1) T (.pointer oa) (.pointer none)).run P w = .ok oa.isNone w := fun d => by
  unfold Op.equalIn
  rw [run_bind_ok (run_underlying ht.und w)]
  cases oa <;> rfl
 simp only [binOp, Op.equal]
 exact run_bind_ok (h 9999) |>.trans rfl
theorem o_eqlnil {T T' e sz bb : Nat} {z : List Value} [ht : TyIs P T (.pointer e) sz bb z] {x y : Operand} {oa : Option Addr} (hx : opd E x = some (.pointer oa)) (hy : opd E y = some (.pointer none)) (hg : Wants ops E g) (hdn : Nat.blt d n = true)
  (h : RunO P f n I₀ Q ops l k ((d, .bool oa.isNone) :: E) I L) : RunO P f n I₀ Q ops (⟨some d, .binOp .eql T x y T', ty, pos, af, g⟩ :: l) k E I L := o_yld (y_eqlnil hx hy) hg hdn h
theorem o_neqself {T T' e sz bb esz ebb : Nat} {z ez : List Value} {dd : TypeDesc} [ht : TyIs P T (.pointer e) sz bb z] [hte : TyIs P e dd esz ebb ez] {x y : Operand} {a : Addr} (hx : opd E x = some (.pointer (some a))) (hy : opd E y = some (.pointer (some a))) (hg : Wants ops E g) (hdn : Nat.blt d n = true)
  (h : RunO P f n I₀ Q ops l k ((d, .bool false) :: E) I L) : RunO P f n I₀ Q ops (⟨some d, .binOp .neq T x y T', ty, pos, af, g⟩ :: l) k E I L :=
 o_pure (fun ac w he => by
  simp only [execOp, he.eval hx, he.eval hy]
  refine run_bind_ok (a := _) (w' := w) ?_ |>.trans rfl
  rw [run_bind_ok (run_eqGuard_ptr w)]
  obtain ⟨i, z, hi, _⟩ := hte.info
  exact Lib.run_neq_ptr_same w a ht.und hi) hg hdn h

theorem shape_own {b : Nat} {c : Array Value} {T : TypeId} {fr : Nat × Nat} {w : World} (hm : (b, Obj.cells c T fr) ∈ L) (hw : Mem I L w) : w.shape? b = some (T, c.size) := by
 simp [World.shape?, (hw.2.1 _ hm).1]
/-- A pointer to a variable of the call's own, to unsafe.Pointer and back. -/
theorem o_toUnsafe {src dst t sz bb sz2 bb2 tsz tbb : Nat} {z z2 tz : List Value} {dd : TypeDesc} [hs : TyIs P src (.pointer t) sz bb z] [hd : TyIs P dst .unsafePointer sz2 bb2 z2] [ht : TyIs P t dd tsz tbb tz] {x : Operand} {b off : Nat} {cs : List Value} {U : TypeId} {fr : Nat × Nat}
  (hx : opd E x = some (.pointer (some ⟨b, off, none⟩))) (hm : (b, Obj.cells cs.toArray U fr) ∈ L) (ht0 : tsz ≠ 0) (ho : off < cs.length) (hg : Wants ops E g) (hdn : Nat.blt d n = true)
  (h : RunO P f n I₀ Q ops l k ((d, .pointer (some ⟨b, off, none⟩)) :: E) I L) : RunO P f n I₀ Q ops (⟨some d, .convert src dst x, ty, pos, af, g⟩ :: l) k E I L :=
 o_yld (fun ac w he hw => by
  obtain ⟨i, z, hi, hsz, _⟩ := ht.info
  simp only [execOp, he.eval hx]
  exact run_bind_ok (Lib.run_to_unsafe w ⟨b, off, none⟩ hs.und hd.und hi (by omega) (shape_own hm hw) (by simpa using ho)) |>.trans rfl) hg hdn h
theorem o_fromUnsafe {src dst u sz bb sz2 bb2 usz ubb : Nat} {z z2 uz : List Value} {dd : TypeDesc} [hs : TyIs P src .unsafePointer sz bb z] [hd : TyIs P dst (.pointer u) sz2 bb2 z2] [hu : TyIs P u dd usz ubb uz] {x : Operand} {b off : Nat} {cs : List Value} {U : TypeId} {fr : Nat × Nat}
  (hx : opd E x = some (.pointer (some ⟨b, off, none⟩))) (hm : (b, Obj.cells cs.toArray U fr) ∈ L) (hl : liesAt P P.depth U (cs.length / P.cellsOf U) off u 1 = true) (hg : Wants ops E g) (hdn : Nat.blt d n = true)
  (h : RunO P f n I₀ Q ops l k ((d, .pointer (some ⟨b, off, none⟩)) :: E) I L) : RunO P f n I₀ Q ops (⟨some d, .convert src dst x, ty, pos, af, g⟩ :: l) k E I L :=
 o_yld (fun ac w he hw => by
  obtain ⟨i, z, hi, _⟩ := hu.info
  simp only [execOp, he.eval hx]
  exact run_bind_ok (Lib.run_from_unsafe w ⟨b, off, none⟩ hs.und hd.und hi (shape_own hm hw) (by simpa using hl)) |>.trans rfl) hg hdn h

/-- A call of a function that the model answers itself. -/
theorem o_extern {kf : FuncId} {args : Array Operand} {tys : Array TypeId} {vs : List Value} {v : Value} {fn : Func} {e : Array Value → Sem Value} (hf : P.funcs[kf]? = some fn) (hb : fn.body = none) (hne : (fn.name == "runtime.NumGoroutine") = false)
  (h1 : (Extern.findNext fn).isNone = true) (h2 : Extern.find fn = some e) (hv : ∀ w, (e vs.toArray).run P w = .ok v w)
  (ha : opds E args.toList = some vs) (hg : Wants ops E g) (hdn : Nat.blt d n = true) (h : RunO P f n I₀ Q ops l k ((d, v) :: E) I L) :
  RunO P f n I₀ Q ops (⟨some d, .call ⟨.value (.func kf), args, tys⟩, ty, pos, af, g⟩ :: l) k E I L :=
 o_pure (fun a w he => by
  have h3 : args.map a.eval = vs.toArray := Array.ext' (by simpa using he.evals ha)
  simp only [execOp, resolve, h3]
  simp only [Act.eval, Deferred.ofValue, pure_bind, invoke]
  unfold callFunc
  rw [run_bind_ok (a := P) (w' := w) rfl]
  have h1' : Extern.findNext fn = none := by simpa using h1
  simp only [hf, hne, hb, Option.isNone_none, if_true, if_false, Bool.false_eq_true, h1', h2]
  rw [run_bind_ok (a := ()) (w' := w) rfl]
  have := hv w
  simp only [Array.append_empty, Array.empty_append]
  exact run_bind_ok this |>.trans rfl) hg hdn h

/-- 'append' of nothing. -/
theorem run_append0 {T e T2 : TypeId} {sz bb esz ebb : Nat} {z ez : List Value} {dd dd2 : TypeDesc} (ht : TyIs P T (.slice e) sz bb z) (hte : TyIs P e dd esz ebb ez) {base : Option Addr} {m c : Nat} {x : Value} (hu2 : P.underlying T2 = some dd2) (hni : ∀ kk, dd2 ≠ .int kk)
  (hmc : m ≤ c) {w : World} (hxl : (Builtin.lenOf x).run P w = .ok 0 w) (hxf : (Builtin.firstCells esz 0 x).run P w = .ok #[] w) :
  (Builtin.append_ #[T, T2] T #[.slice base m c, x]).run P w = .ok (.slice base m c) w := by
 unfold Builtin.append_
 simp only [List.getElem?_toArray, List.getElem?_cons_zero, List.getElem?_cons_succ]
 rw [run_bind_ok (run_underlying ht.und w)]
 simp only []
 rw [run_bind_ok (run_sizeOf hte w)]
 rw [run_bind_ok (run_underlying hu2 w)]
 have hz : (match dd2 with | .int _ => true | _ => false) = false := by
  cases dd2 <;> first | rfl | exact absurd rfl (hni _)
 simp only [hz, pure_bind, Bool.false_eq_true, if_false, Bool.not_false, if_true]
 rw [run_bind_ok hxl]
 simp only [Nat.add_zero, if_pos hmc]
 rw [run_bind_ok hxf]
 cases base <;> rfl

def bv (b : UInt8) : Value := .int .u8 (b.toNat : Nat)
theorem run_firstStr {s : List UInt8} {w : World} : (Builtin.firstCells 1 s.length (.string (str s))).run P w = .ok (s.map bv).toArray w := by
 simp only [Builtin.firstCells, run_pure]
 congr 1
 apply Array.ext'
 simp [str, ByteArray.data_extract, bv]
theorem run_lenStr {s : List UInt8} {w : World} : (Builtin.lenOf (.string (str s))).run P w = .ok s.length w := by
 simp [Builtin.lenOf, run_pure, str, ByteArray.size]
theorem bv_plain (s : List UInt8) : (s.map bv).all plainCell = true := by simp [bv, plainCell]

/-- 'append(bytes, s...)' of a text. -/
theorem o_appendStr {T T2 e : TypeId} {sz bb ebb sz2 bb2 : Nat} {z ez z2 : List Value} {dd : TypeDesc} [ht : TyIs P T (.slice e) sz bb z] [hte : TyIs P e dd 1 ebb ez] [ht2 : TyIs P T2 .string sz2 bb2 z2]
  {x y : Operand} {B : Buf} {xs : List Value} {s : List UInt8} {m c : Nat} {L₀ : Own} (hez : ez.length = 1)
  (hx : opd E x = some (bufVal m c B)) (hy : opd E y = some (.string (str s))) (hB : BufOk 1 m c xs B) (hL : ∀ w, Mem I L w → Mem I (bufOwn e xs B ++ L₀) w)
  (hsize : (m + s.length) ≤ 4294967296) (hbytes : ebb ≤ 1024) (hg : Wants ops E g) (hdn : Nat.blt d n = true)
  (h : ∀ B' c', BufOk 1 (m + s.length) c' (xs ++ s.map bv) B' → (s ≠ [] → B' ≠ none) → (s = [] → B' = B) → RunO P f n I₀ Q ops l k ((d, bufVal (m + s.length) c' B') :: E) I (bufOwn e (xs ++ s.map bv) B' ++ L₀)) :
  RunO P f n I₀ Q ops (⟨some d, .call ⟨.builtin .append, #[x, y], #[T, T2]⟩, T, pos, af, g⟩ :: l) k E I L := by
 refine o_stepX rfl hdn (fun a he => hg.wanted a he) fun a w he hm => ?_
 by_cases hs : s = []
 ·subst hs
  have hv : ∃ base cc, bufVal m c B = .slice base m cc ∧ m ≤ cc ∧ cc = c := by
   cases B with
   | none => obtain ⟨h1, h2, h3⟩ := hB; exact ⟨none, 0, by simp [bufVal, h2], by omega, h3.symm⟩
   | some p => exact ⟨_, c, rfl, hB.2.1, rfl⟩
  obtain ⟨base, cc, hbv, hmc, rfl⟩ := hv
  have := run_append0 (P := P) (T2 := T2) (base := base) (x := .string (str [])) (w := w) ht hte ht2.und (by intro kk; simp) hmc run_lenStr run_firstStr
  refine ⟨_, w, I, _, ?_, hL w hm, by simpa using h B cc (by simpa using hB) (by simp) (fun _ => rfl)⟩
  simp only [execOp, resolve, List.map_toArray, List.map, he.eval hx, he.eval hy, pure_bind, invoke, builtin, hbv]
  exact run_bind_ok this |>.trans rfl
 ·have hpos := List.length_pos_iff.2 hs
  obtain ⟨w', B', c', hr, hne, hB', hm'⟩ := run_append (x := .string (str s)) (m2 := s.length) (ys := s.map bv) ht hte hez ht2.und (by intro kk; simp) hB (hL w hm) (by simp) (fun _ => run_lenStr) (fun w hw => run_firstStr) (bv_plain s) hpos (by decide) hsize hbytes
  refine ⟨_, w', I, _, ?_, hm', h B' c' hB' (fun _ => hne) (fun hh => absurd hh hs)⟩
  simp only [execOp, resolve, List.map_toArray, List.map, he.eval hx, he.eval hy, pure_bind, invoke, builtin]
  exact run_bind_ok hr |>.trans rfl

theorem Mem.frozen {b m : Nat} {o : Obj} {w : World} (h : Mem I ((b, o) :: L) w) : Mem I L (w.freeze ⟨b, 0, none⟩ m) := by
 obtain ⟨h1, h2, h3⟩ := h
 have hb := h2 (b, o) (.head _)
 have hn : b ∉ L.map (·.1) ∧ (L.map (·.1)).Nodup := List.nodup_cons.1 h3
 unfold World.freeze
 split
 ·exact ⟨h1, fun p hp => h2 p (.tail _ hp), hn.2⟩
 ·refine ⟨⟨fun c u hc => ?_, h1.2⟩, fun p hp => ⟨?_, (h2 p (.tail _ hp)).2⟩, hn.2⟩
  ·have hne : b ≠ c := fun e => by subst e; rw [hb.2] at hc; cases hc
   simp only [Array.getElem?_modify, if_neg hne]
   exact h1.1 c u hc
  ·have hne : b ≠ p.1 := fun e => hn.1 (e ▸ List.mem_map.2 ⟨p, hp, rfl⟩)
   simp only [Array.getElem?_modify, if_neg hne]
   exact (h2 p (.tail _ hp)).1


theorem y_sliceData {S : World → Prop} {x : Operand} {a : Addr} {m c : Nat} {tys : Array TypeId} (hx : opd E x = some (.slice (some a) m c)) (hc : c ≠ 0) :
  Yld P E S ⟨some d, .call ⟨.builtin .unsafeSliceData, #[x], tys⟩, ty, pos, af, g⟩ (.pointer (some a)) := fun ac w he _ => by
 simp only [execOp, resolve, List.map_toArray, List.map, he.eval hx, pure_bind, invoke, builtin]
 exact run_bind_ok (Lib.run_unsafeSliceData_row w _ _ _ _ _ hc) |>.trans rfl
theorem y_sliceData0 {S : World → Prop} {x : Operand} {m c : Nat} {tys : Array TypeId} (hx : opd E x = some (.slice none m c)) :
  Yld P E S ⟨some d, .call ⟨.builtin .unsafeSliceData, #[x], tys⟩, ty, pos, af, g⟩ (.pointer none) := fun ac w he _ => by
 simp only [execOp, resolve, List.map_toArray, List.map, he.eval hx, pure_bind, invoke, builtin]
 exact run_bind_ok (Lib.run_unsafeSliceData_nil w _ _ _ _) |>.trans rfl
theorem y_unsafeString0 {S : World → Prop} {x y : Operand} {pt it : TypeId} {oa : Option Addr} (hx : opd E x = some (.pointer oa)) (hy : opd E y = some (.int .i64 0)) :
  Yld P E S ⟨some d, .call ⟨.builtin .unsafeString, #[x, y], #[pt, it]⟩, ty, pos, af, g⟩ (.string (str [])) := fun ac w he _ => by
 simp only [execOp, resolve, List.map_toArray, List.map, he.eval hx, he.eval hy, pure_bind, invoke, builtin]
 exact run_bind_ok (Lib.run_unsafeString_none w _ _ _ _) |>.trans rfl
theorem d_unsafeString {S : World → Prop} {fuel : Nat} {listed listed' : Array Bool} (i : Nat) {x y : Operand} {pt it e sz bb : Nat} {z : List Value} [ht : TyIs P pt (.pointer e) sz bb z] {b : Nat} {xs : List UInt8} {sp : List Value} {fr : Nat × Nat} {L₀ : Own}
  (hi : ops[i]? = some ⟨some d, .call ⟨.builtin .unsafeString, #[x, y], #[pt, it]⟩, ty, pos, af, g⟩) (hc : decide (Region.ready .any ops listed = [i]) = true) (hl : listed' = listed.setIfInBounds i true)
  (hx : opd E x = some (.pointer (some ⟨b, 0, none⟩))) (hy : opd E y = some (.int .i64 (xs.length : Nat))) (he1 : P.cellsOf e = 1) (h0 : xs ≠ []) (hlen : xs.length ≤ 4294967296)
  (hL : ∀ w, Mem I L w → Mem I ((b, .cells (xs.map bv ++ sp).toArray e fr) :: L₀) w) (hS : heldB ops listed' = true ∨ ∀ w, Mem I L₀ w → S w) (hg : Wants ops E g) (hdn : Nat.blt d n = true)
  (h : RunW P f n I₀ Q ops S fuel listed' k ((d, .string (str xs)) :: E) I L₀) : RunW P f n I₀ Q ops S (fuel + 1) listed k E I L := by
 refine d_stepX i hi hc hl rfl hdn (fun a he => hg.wanted a he) fun a w he hm => ?_
 have hm' := hL w hm
 have hb := (hm'.2.1 _ (.head _)).1
 refine ⟨_, _, I, L₀, ?_, hm'.frozen (m := xs.length), hS, h⟩
 simp only [execOp, resolve, List.map_toArray, List.map, he.eval hx, he.eval hy, pure_bind, invoke, builtin]
 refine run_bind_ok (Lib.run_unsafeString_row w pt it ty e ht.und he1 b _ (shape_own (.head _) hm') xs h0 (by simp) (by omega) ?_) |>.trans rfl
 intro j c hj
 rw [cell_at hb]
 have hjl : j < xs.length := by
  rcases Nat.lt_or_ge j xs.length with gg | gg
  ·exact gg
  ·simp [List.getElem?_eq_none gg] at hj
 simp only [Nat.zero_add, List.getElem?_toArray]
 rw [List.getElem?_append_left (by simpa using hjl), List.getElem?_map, hj]
 rfl

theorem valCells_buf {m c : Nat} {B : Buf} : valCells (bufVal m c B) = some [bufVal m c B] := by cases B <;> rfl

end rules
theorem Mem.bl1 {I : Heap} {a p : Nat × Obj} {X L : Own} {w : World} (h : Mem I (a :: p :: (X ++ L)) w) : Mem I (p :: (X ++ a :: L)) w := h.f1.perm (List.Perm.cons _ (List.perm_append_comm_assoc [a] X L))
theorem Mem.br1 {I : Heap} {a p : Nat × Obj} {X L : Own} {w : World} (h : Mem I (p :: (X ++ a :: L)) w) : Mem I (a :: p :: (X ++ L)) w :=
 (h.perm (List.Perm.cons _ (List.perm_append_comm_assoc [a] X L).symm)).f1
def BOk (xs : Txt) (B : Buf) (c : Nat) : Prop := BufOk 1 xs.length c (xs.map bv) B ∧ (B = none ∨ xs ≠ [])
/-- A Builder and its buffer. -/
def bld (b : Nat) (pre : Bool) (xs : Txt) (B : Buf) (c : Nat) (L : Own) : Own :=
 (b, .cells [.pointer (bif pre then some ⟨b, 0, none⟩ else none), bufVal xs.length c B].toArray 69 (0, 0)) :: (bufOwn 5 (xs.map bv) B ++ L)

theorem f_strings_Builder_copyCheck (b : Nat) (pre : Bool) (v2 : Value) (I : Heap) (L : Own) : Fun Tryz.prog 137 [.pointer (some ⟨b, 0, none⟩)] I
  ((b, .cells [.pointer (bif pre then some ⟨b, 0, none⟩ else none), v2].toArray 69 (0, 0)) :: L)
  (fun v I' L' => v = .tuple #[] ∧ I = I' ∧ L' = (b, .cells [.pointer (some ⟨b, 0, none⟩), v2].toArray 69 (0, 0)) :: L) := by
 cases pre with
 | true =>
  refine fun_intro (by simp) ?_
  refine Se rfl (Om rfl ?_)
  refine o_nilCheck rfl .free rfl ?_
  first | refine Oh rfl ?_ | refine Oj rfl ?_
  refine o_lS rfl .free rfl ?_
  refine o_eqlnil rfl rfl .free rfl ?_
  refine o_done ?_
  first | refine s_fp rfl (by simp) ?_ | refine s_fn rfl (by simp) ?_ | refine s_false (by simp [look, opd, *]) ?_
  refine Se rfl (Om rfl ?_)
  refine o_nilCheck rfl .free rfl ?_
  first | refine Oh rfl ?_ | refine Oj rfl ?_
  refine o_lS rfl .free rfl ?_
  refine Om rfl ?_
  refine o_neqself rfl rfl .free rfl ?_
  refine o_done ?_
  first | refine s_fp rfl (by simp) ?_ | refine s_fn rfl (by simp) ?_ | refine s_false (by simp [look, opd, *]) ?_
  refine s_skip ?_
  refine s_end .nil ?_
  exact ⟨I, _, .refl _, fun _ h => h, rfl, rfl, rfl⟩
 | false =>
  refine fun_intro (by simp) ?_
  refine Se rfl (Om rfl ?_)
  refine o_nilCheck rfl .free rfl ?_
  first | refine Oh rfl ?_ | refine Oj rfl ?_
  refine o_lS rfl .free rfl ?_
  refine o_eqlnil rfl rfl .free rfl ?_
  refine o_done ?_
  first | refine s_tp rfl (by simp) ?_ | refine s_tn rfl (by simp) ?_ | refine s_true (by simp [look, opd, *]) ?_
  refine o_enter rfl (Om rfl (Om rfl ?_))
  refine o_toUnsafe rfl (.head _) (by decide) (by simp) .free rfl ?_
  refine o_extern (fn := Tryz.f164) (e := Extern.AbiNoEscape.same) Tryz.func164 (by kernel_rfl) (by kernel_rfl) (by kernel_rfl) (by kernel_rfl) (fun w => Lib.run_noEscape w _) rfl .free rfl ?_
  refine o_fromUnsafe rfl (.head _) (by kernel_rfl) .free rfl ?_
  refine o_nilCheck rfl .free rfl ?_
  first | refine Oh rfl ?_ | refine Oj rfl ?_
  refine o_st rfl rfl rfl rfl .free ?_
  refine o_done ?_
  refine s_end .nil ?_
  exact ⟨I, _, .refl _, fun _ h => h, rfl, rfl, rfl⟩

theorem f_strings_Builder_WriteString (b : Nat) (pre : Bool) (xs : Txt) (B : Buf) (c : Nat) (s : Txt) (hB : BOk xs B c) (hs : xs.length + s.length ≤ maxN) (I : Heap) (L : Own) :
  Fun Tryz.prog 97 [.pointer (some ⟨b, 0, none⟩), .string (str s)] I (bld b pre xs B c L)
  (fun v I' L' => v = .tuple #[.int .i64 (s.length : Nat), .nilIface] ∧ I = I' ∧ ∃ B' c', BOk (xs ++ s) B' c' ∧ L' = bld b true (xs ++ s) B' c' L) := by
 unfold maxN at hs
 refine fun_intro (by simp) ?_
 refine Se rfl (Oa rfl (Oa rfl (o_done (Se rfl (Om rfl ?_)))))
 refine o_call rfl .free rfl (f_strings_Builder_copyCheck b pre _ _ _) ?_
 rintro _ _ _ _ ⟨rfl, rfl, rfl⟩
 refine o_done (Se rfl (Om rfl (Om rfl ?_)))
 refine o_nilCheck rfl .free rfl ?_
 first | refine Oh rfl ?_ | refine Oj rfl ?_
 refine o_lS rfl .free rfl ?_
 refine Om rfl ?_
 refine o_appendStr (B := B) (xs := xs.map bv) (s := s) (m := xs.length) (c := c) (by rfl) rfl rfl hB.1 (fun _ h => h.u1) (by omega) (by decide) .free rfl ?_
 intro B' c' hB' hne hsame
 refine o_mem (fun w h => h.perm (List.perm_middle (l₁ := bufOwn _ _ B'))) ?_
 refine o_nilCheck rfl .free rfl ?_
 first | refine Oh rfl ?_ | refine Oj rfl ?_
 refine o_store rfl rfl valCells_buf rfl (by first | rfl | (simp only [List.toList_toArray, List.all_cons, List.all_nil, plainCell_buf, Bool.and_true, Bool.true_and] <;> rfl)) (by first | exact u0 | exact u1 | exact u2 | exact u3 | exact u4 | exact u5 | exact u6) (by rfl) .free ?_
 refine o_done (Se rfl (Om rfl ?_))
 refine o_len_str rfl .free rfl ?_
 refine Oa rfl (Oa rfl (o_done ?_))
 refine s_ret (.tmp rfl (.tmp rfl .nil)) ?_
 refine ⟨I, _, .refl _, fun _ h => h, rfl, rfl, B', c', ⟨by simpa using hB', ?_⟩, by simp [bld]⟩
 by_cases hs0 : s = []
 ·subst hs0; rw [hsame rfl]; simpa using hB.2
 ·exact .inr (by simp [hs0])
theorem f_strings_Builder_WriteByte (b : Nat) (pre : Bool) (xs : Txt) (B : Buf) (c : Nat) (u : UInt8) (hB : BOk xs B c) (hs : xs.length + 1 ≤ maxN) (I : Heap) (L : Own) :
  Fun Tryz.prog 111 [.pointer (some ⟨b, 0, none⟩), .int .u8 (u.toNat : Nat)] I (bld b pre xs B c L)
  (fun v I' L' => v = .nilIface ∧ I = I' ∧ ∃ B' c', BOk (xs ++ [u]) B' c' ∧ L' = bld b true (xs ++ [u]) B' c' L) := by
 unfold maxN at hs
 refine fun_intro (by simp) ?_
 refine Se rfl (Oa rfl (o_done (Se rfl (Om rfl ?_))))
 refine o_call rfl .free rfl (f_strings_Builder_copyCheck b pre _ _ _) ?_
 rintro _ _ _ _ ⟨rfl, rfl, rfl⟩
 refine o_done (Se rfl (Om rfl (Om rfl ?_)))
 refine o_nilCheck rfl .free rfl ?_
 first | refine Oh rfl ?_ | refine Oj rfl ?_
 refine o_lS rfl .free rfl ?_
 refine Om rfl ?_
 refine Ol rfl rfl ?_
 intro b13
 refine o_append (B := B) (xs := xs.map bv) (ys := [bv u]) (m := xs.length) (c := c) (by intro kk; simp) (by rfl) rfl rfl hB.1 (fun _ h => h.u2) (by rfl) (fun a ha => by cases ha; exact reads_ownL (.head _) (by rfl)) (by simp) (by rfl) (by decide) (by decide) (by omega) (by decide) .free rfl ?_
 intro bb sp c' hB'
 refine o_nilCheck rfl .free rfl ?_
 first | refine Oh rfl ?_ | refine Oj rfl ?_
 refine o_st rfl rfl rfl rfl .free ?_
 refine o_done (Se rfl (Oa rfl (o_done (s_ret (.tmp rfl .nil) ?_))))
 refine ⟨I, _, .refl _, fun w h => Mem.sub (L' := (b, _) :: (bb, _) :: L) (by repeat (first | exact List.Sublist.refl _ | apply List.Sublist.cons_cons | apply List.Sublist.cons)) h.f2, rfl, rfl, some (bb, sp), c', ⟨by simpa using hB', .inr (by simp)⟩, by simp [bld, bufOwn, bufVal]⟩
theorem f_strings_Builder_String (b : Nat) (pre : Bool) (xs : Txt) (B : Buf) (c : Nat) (hB : BOk xs B c) (hs : xs.length ≤ maxN) (I : Heap) (L : Own) :
  Fun Tryz.prog 53 [.pointer (some ⟨b, 0, none⟩)] I (bld b pre xs B c L) (Only (.string (str xs)) I L) := by
 unfold maxN at hs
 cases B with
 | none =>
  obtain ⟨⟨h1, h2, h3⟩, _⟩ := hB
  obtain rfl : xs = [] := by simpa using h1
  refine fun_intro (by simp) ?_
  refine Se rfl (Oa rfl (o_done (s_seq ?_)))
  refine d_all 12 rfl rfl ?_
  refine Da 0 rfl (y_move rfl) ?_
  refine Da 1 rfl (y_nilCheck rfl) ?_
  first | refine Da 2 rfl (y_fieldAddr rfl) ?_ | refine Da 2 rfl (y_fieldAddr' rfl) ?_
  refine Dt 3 [12] rfl (y_lS rfl) ?_
  refine Da 4 rfl (y_sliceData0 rfl) ?_
  refine Da 5 rfl (y_move rfl) ?_
  refine Da 6 rfl (y_nilCheck rfl) ?_
  first | refine Da 7 rfl (y_fieldAddr rfl) ?_ | refine Da 7 rfl (y_fieldAddr' rfl) ?_
  refine Dt 8 [12] rfl (y_lS rfl) ?_
  refine Da 9 rfl (y_len_slice rfl) ?_
  refine Da 10 rfl (y_unsafeString0 rfl rfl) ?_
  refine Da 11 rfl (y_assign rfl) ?_
  refine d_done (by kernel_rfl) ?_
  refine s_ret (.tmp rfl .nil) ?_
  refine only rfl ?_
  simp [retOne, *]
 | some p =>
  obtain ⟨bb, sp⟩ := p
  have hne : xs ≠ [] := by rcases hB.2 with h | h <;> simp_all
  have hpos := List.length_pos_iff.2 hne
  have hc := hB.1.2.1
  refine fun_intro (by simp) ?_
  refine Se rfl (Oa rfl (o_done (s_seq ?_)))
  simp only [bld, bufOwn, List.cons_append, List.nil_append]
  refine d_with I ((b, .cells [.pointer (bif pre then some ⟨b, 0, none⟩ else none), bufVal xs.length c (some (bb, sp))].toArray 69 (0, 0)) :: L) 12 rfl rfl ?_
  refine Da 0 rfl (y_move rfl) ?_
  refine Da 1 rfl (y_nilCheck rfl) ?_
  first | refine Da 2 rfl (y_fieldAddr rfl) ?_ | refine Da 2 rfl (y_fieldAddr' rfl) ?_
  refine Dt 3 [12] rfl (y_lS rfl) ?_
  refine Da 4 rfl (y_sliceData rfl (by omega)) ?_
  refine Da 5 rfl (y_move rfl) ?_
  refine Da 6 rfl (y_nilCheck rfl) ?_
  first | refine Da 7 rfl (y_fieldAddr rfl) ?_ | refine Da 7 rfl (y_fieldAddr' rfl) ?_
  refine Dt 8 [12] rfl (y_lS rfl) ?_
  refine Da 9 rfl (y_len_slice rfl) ?_
  refine d_unsafeString 10 rfl (by kernel_rfl) rfl rfl rfl (by kernel_rfl) hne (by omega) (fun _ h => h.f1) (.inr heldx) .free rfl ?_
  refine Da 11 rfl (y_assign rfl) ?_
  refine d_done (by kernel_rfl) ?_
  refine s_ret (.tmp rfl .nil) ?_
  refine only rfl ?_
  simp [retOne, *]
structure WS where
 i : Nat
 pre : Bool
 B : Buf
 c : Nat
theorem openT_len (ps : List Tree) (i : Nat) : (openT (ps.take i)).length ≤ (openT ps).length := by
 rcases Nat.le_total ps.length i with h | h
 ·rw [List.take_of_length_le h]; exact Nat.le_refl _
 ·cases ps with
  | nil => simp
  | cons t ts =>
   cases i with
   | zero => simp [openT]
   | succ i =>
    have := textL_append (ts.take i) (ts.drop i)
    rw [List.take_append_drop] at this
    simp [openT, this]
theorem f_form_write : ∀ (n : Nat) {I : Heap} {t : Tree} {cs : List Value} (_ : SizeOf.sizeOf t < n) (_ : Rep I t cs) (b : Nat) (pre : Bool) (xs : Txt) (B : Buf) (c : Nat) (_ : BOk xs B c) (_ : xs.length + t.text.length ≤ maxN) (L : Own),
  Fun Tryz.prog 64 [.agg cs.toArray, .pointer (some ⟨b, 0, none⟩)] I (bld b pre xs B c L)
  (fun v I' L' => v = .tuple #[] ∧ I = I' ∧ ∃ B' c', BOk (xs ++ t.text) B' c' ∧ L' = bld b true (xs ++ t.text) B' c' L) := by
 intro n
 induction n with
 | zero => intro I t cs h; omega
 | succ n ihn =>
  intro I t cs hlt h b pre xs B c hB hz L
  obtain ⟨oa, cc, vs, rfl, hl, hs, hn, hc, ha, hp⟩ := h.open
  unfold maxN at hp
  refine fun_intro (by simp) ?_
  refine Se rfl ?_
  refine o_box rfl rfl .free rfl ?_
  intro b2
  refine o_done (s_seq (Se rfl ?_))
  refine o_lS rfl .free rfl ?_
  refine o_call rfl .free rfl (f_form_isAtom h _) ?_
  rintro _ _ _ _ ⟨rfl, rfl, rfl⟩
  refine o_done ?_
  refine Si rfl ?_ ?_
  ·intro c0
   have hta := t.text_atom (by simpa using c0)
   refine Se rfl (Om rfl ?_)
   first | refine Oh rfl ?_ | refine Oj rfl ?_
   refine o_lS rfl .free rfl ?_
   refine o_mem (fun w h => Mem.bl1 h) ?_
   refine o_call rfl .free rfl (f_strings_Builder_WriteString b pre xs B c t.atom hB (by rw [← hta]; exact hz) _ _) ?_
   rintro _ _ _ _ ⟨rfl, rfl, B1, c1, hB1, rfl⟩
   refine o_done ?_
   refine s_ret .nil ?_
   exact ⟨I, _, .refl _, fun w h => (Mem.br1 h).drop, rfl, rfl, B1, c1, by rw [hta]; exact hB1, by rw [hta]; rfl⟩
  intro c0
  have hne : t.parts ≠ [] := by simpa using c0
  have htx := t.text_eq hne
  have hz' := hz
  rw [htx] at hz'
  simp only [List.length_append, List.length_cons, List.length_nil] at hz'
  refine s_skip (s_seq (Se rfl ?_))
  first | refine Oh rfl ?_ | refine Oj rfl ?_
  refine o_lS rfl .free rfl ?_
  refine On rfl (Om rfl (o_done (s_block ?_)))
  refine s_while (X := WS) (fun x => t.parts.length - x.i) (fun x => [(1, .pointer (some ⟨b, 0, none⟩)), (13, .slice oa t.parts.length cc), (14, .int .i64 (t.parts.length : Nat)), (15, .int .i64 (x.i : Nat))]) (fun _ => I) (fun x => bld b x.pre (xs ++ openT (t.parts.take x.i)) x.B x.c L)
   (fun x => x.i ≤ t.parts.length ∧ BOk (xs ++ openT (t.parts.take x.i)) x.B x.c ∧ (x.i = t.parts.length → x.pre = true)) ⟨0, pre, B, c⟩ ⟨by simp, by simpa [openT] using hB, fun hh => by simp only at hh; exact absurd (List.length_eq_zero_iff.1 hh.symm) hne⟩ ⟨rfl, rfl, rfl, rfl, trivial⟩ (fun w hh => by simpa [openT] using hh.drop) ?_
  rintro x ⟨hi, hxB, hxp⟩ ih
  refine Se rfl (Oc rfl rfl rfl (o_done (s_seq ?_)))
  refine Si rfl ?_ ?_
  ·intro c1
   obtain ⟨x', hx, oa', c', hr, hst⟩ := Rep.at hl hs hn x.i (by omega)
   have htk := openT_take t.parts x.i (by omega)
   have hlk := openT_len t.parts (x.i + 1)
   rw [htk] at hlk
   simp only [List.length_append, List.length_cons] at hlk
   refine s_skip (s_seq (s_block (Se rfl (Om rfl ?_))))
   refine o_indexAddr' rfl rfl _ rfl (by first | omega | exact lt_of (by assumption) (by decide) | (simp; done) | (simp; omega) | decide | (simp at *; omega)) (by first | rfl | assumption) .free rfl ?_
   refine o_lS rfl .free rfl ?_
   refine o_alloc .free rfl ?_
   intro b5
   refine Oa rfl ?_
   refine o_st rfl rfl rfl rfl .free ?_
   refine o_done (s_seq (Se rfl (Om rfl (Oc rfl rfl rfl (o_done ?_)))))
   refine Si rfl ?_ ?_
   ·intro c2
    refine o_enter rfl (Om rfl ?_)
    refine o_mem (fun w h => Mem.bl1 h) ?_
    refine o_call rfl .free rfl (f_strings_Builder_WriteByte b x.pre _ x.B x.c 40 hxB (by rw [List.length_append]; unfold maxN at *; omega) _ _) ?_
    rintro _ _ _ _ ⟨rfl, rfl, B1, c1, hB1, rfl⟩
    have e : xs ++ openT (t.parts.take (x.i + 1)) = xs ++ openT (t.parts.take x.i) ++ [40] ++ t.parts[x.i].text := by rw [htk, if_pos (by omega)]; simp
    refine o_mem (fun w h => Mem.br1 h) ?_
    refine o_done (o_enter rfl ?_)
    refine o_lS rfl .free rfl ?_
    refine Om rfl ?_
    refine o_mem (fun w h => Mem.bl1 h) ?_
    refine o_call rfl .free rfl (ihn (by have := t.part_lt x.i (by omega); omega) hr b true _ B1 c1 hB1 (by simp only [List.length_append, List.length_cons, List.length_nil]; unfold maxN at *; omega) _) ?_
    rintro _ _ _ _ ⟨rfl, rfl, B2, c2', hB2, rfl⟩
    refine o_mem (fun w h => (Mem.br1 h).drop) ?_
    refine o_done (s_inBlock (o_enter rfl ?_))
    refine Or rfl rfl rfl ?_
    refine Om rfl (o_done ?_)
    refine s_mem (fun w hh => ?_) (s_env (E' := [(1, .pointer (some ⟨b, 0, none⟩)), (13, .slice oa t.parts.length cc), (14, .int .i64 (t.parts.length : Nat)), (15, .int .i64 ((x.i + 1 : Nat)))]) ⟨rfl, rfl, rfl, rfl, trivial⟩ (ih ⟨x.i + 1, true, B2, c2'⟩ ⟨by simp only; omega, by simp only; rw [e]; exact hB2, fun _ => rfl⟩ (by simp only; omega)))
    simp only; rw [e]; exact hh
   intro c2
   refine o_enter rfl (Om rfl ?_)
   refine o_mem (fun w h => Mem.bl1 h) ?_
   refine o_call rfl .free rfl (f_strings_Builder_WriteByte b x.pre _ x.B x.c 32 hxB (by rw [List.length_append]; unfold maxN at *; omega) _ _) ?_
   rintro _ _ _ _ ⟨rfl, rfl, B1, c1, hB1, rfl⟩
   have e : xs ++ openT (t.parts.take (x.i + 1)) = xs ++ openT (t.parts.take x.i) ++ [32] ++ t.parts[x.i].text := by rw [htk, if_neg (by omega)]; simp
   refine o_mem (fun w h => Mem.br1 h) ?_
   refine o_done (o_enter rfl ?_)
   refine o_lS rfl .free rfl ?_
   refine Om rfl ?_
   refine o_mem (fun w h => Mem.bl1 h) ?_
   refine o_call rfl .free rfl (ihn (by have := t.part_lt x.i (by omega); omega) hr b true _ B1 c1 hB1 (by simp only [List.length_append, List.length_cons, List.length_nil]; unfold maxN at *; omega) _) ?_
   rintro _ _ _ _ ⟨rfl, rfl, B2, c2', hB2, rfl⟩
   refine o_mem (fun w h => (Mem.br1 h).drop) ?_
   refine o_done (s_inBlock (o_enter rfl ?_))
   refine Or rfl rfl rfl ?_
   refine Om rfl (o_done ?_)
   refine s_mem (fun w hh => ?_) (s_env (E' := [(1, .pointer (some ⟨b, 0, none⟩)), (13, .slice oa t.parts.length cc), (14, .int .i64 (t.parts.length : Nat)), (15, .int .i64 ((x.i + 1 : Nat)))]) ⟨rfl, rfl, rfl, rfl, trivial⟩ (ih ⟨x.i + 1, true, B2, c2'⟩ ⟨by simp only; omega, by simp only; rw [e]; exact hB2, fun _ => rfl⟩ (by simp only; omega)))
   simp only; rw [e]; exact hh
  intro c1
  have hxi : x.i = t.parts.length := by omega
  rw [hxi, List.take_length] at hxB
  refine s_exit rfl ?_
  rw [hxi, List.take_length]
  refine o_enter rfl (Om rfl ?_)
  refine o_call rfl .free rfl (f_strings_Builder_WriteByte b x.pre _ x.B x.c 41 hxB (by rw [List.length_append]; unfold maxN at *; omega) _ _) ?_
  rintro _ _ _ _ ⟨rfl, rfl, B1, c1, hB1, rfl⟩
  refine o_done ?_
  refine s_end .nil ?_
  refine ⟨I, _, .refl _, fun w h => h, rfl, rfl, B1, c1, ?_, ?_⟩
  ·rw [htx, ← List.append_assoc]; exact hB1
  ·rw [htx, ← List.append_assoc]

theorem f_form_text {I : Heap} {t : Tree} {cs : List Value} (h : Rep I t cs) (hz : t.text.length ≤ maxN) (L : Own) : Fun Tryz.prog 33 [.agg cs.toArray] I L (Only (.string (str t.text)) I L) := by
 obtain ⟨oa, c, vs, rfl, hl, hs, hn, hc, ha, hp⟩ := h.open
 refine fun_intro (by simp) ?_
 refine Se rfl ?_
 refine o_box rfl rfl .free rfl ?_
 intro b1
 refine Oa rfl (o_done (Se rfl ?_))
 refine o_alloc .free rfl ?_
 intro b3
 refine o_done (Se rfl ?_)
 refine o_lS rfl .free rfl ?_
 refine o_mem (fun w hh => Mem.f1 hh) ?_
 refine o_mem (L' := bld b3 false [] none 0 _) (fun w hh => Mem.f1 hh) ?_
 refine o_call rfl .free rfl (f_form_write _ (Nat.lt_succ_self _) h b3 false [] none 0 ⟨⟨rfl, rfl, rfl⟩, .inl rfl⟩ (by simpa using hz) _) ?_
 rintro _ _ _ _ ⟨rfl, rfl, B1, c1, hB1, rfl⟩
 refine o_done (Se rfl ?_)
 refine o_call rfl .free rfl (f_strings_Builder_String b3 true _ B1 c1 hB1 (by simpa using hz) _ _) ?_
 rintro _ _ _ _ ⟨rfl, rfl, rfl⟩
 refine Oa rfl (o_done (s_ret (.tmp rfl .nil) ?_))
 refine only rfl ?_
 simp [retOne, *]
def sv (s : Txt) : Value := .string (str s)
structure Strs (I : Heap) (oa : Option Addr) (l : List Txt) (c : Nat) : Prop where
 still : ∀ x, oa = some x → Still I x (l.map sv)
 nil : oa = none → l = []
 cap : l.length ≤ c
 len : l.length ≤ maxN
 each : ∀ s ∈ l, s.length ≤ maxN
theorem Strs.mono {I I' : Heap} {oa : Option Addr} {l : List Txt} {c : Nat} (hle : HLe I I') (h : Strs I oa l c) : Strs I' oa l c :=
 ⟨fun x hx => (h.still x hx).mono hle, h.nil, h.cap, h.len, h.each⟩
theorem Strs.at {I : Heap} {oa : Option Addr} {l : List Txt} {c : Nat} (h : Strs I oa l c) (i : Nat) (hi : i < l.length) : ∃ x, oa = some x ∧ Still I (x.add (i * 1)) [.string (str l[i])] := by
 cases oa with
 | none => have := h.nil rfl; subst this; simp at hi
 | some x =>
  refine ⟨x, rfl, (h.still x rfl).part (i * 1) ?_⟩
  intro j hj
  obtain rfl : j = 0 := by simpa using hj
  simp [hi, sv]

/-- Where a text stands last among the first ones. -/
def lastAt (l : List Txt) (s : Txt) : Nat → Option Nat
 | 0 => none
 | n + 1 => if l.getD n [] = s then some n else lastAt l s n
def lastIdx (l : List Txt) (s : Txt) : Option Nat := lastAt l s l.length
theorem lastAt_lt {l : List Txt} {s : Txt} : ∀ {n i : Nat}, lastAt l s n = some i → i < n ∧ l.getD i [] = s := by
 intro n
 induction n with
 | zero => intro i h; simp [lastAt] at h
 | succ n ih =>
  intro i h
  simp only [lastAt] at h
  split at h
  ·simp at h; subst h; exact ⟨by omega, by assumption⟩
  ·have := ih h; exact ⟨by omega, this.2⟩
def idxVal : Option Nat → Int
 | some i => i
 | none => -1

/-- The type that stands last for a name, or "". -/
def lookTxt (names types : List Txt) (s : Txt) : Txt := match lastIdx names s with
 | some i => types.getD i []
 | none => []
def isEnv (names types : List Txt) : Bool := decide (names.length ≤ 8) && decide (names.length = types.length) && names.all isName && types.all fun s => (typeOf s).isSome
structure ES where
 I : Heap
 i : Nat
 ts : List Tree
 B : Buf
 c : Nat
 xs : List Value
structure ESInv (I : Heap) (l m : List Txt) (x : ES) : Prop where
 hle : HLe I x.I
 hrl : RepL x.I x.ts x.xs
 hB : BufOk 2 x.i x.c x.xs x.B
 hlen : x.i = x.ts.length
 hi : x.i ≤ m.length
 hts : (m.take x.i).map typeOf = x.ts.map some
 hall : (l.take x.i).all isName = true

/-- What 'readEnv' returns. -/
def RE (oa : Option Addr) (l m : List Txt) (c : Nat) (L : Own) : Post := fun v I' L' => ∃ oa' n c2 ob' ts c3, v = .tuple #[.agg [.slice oa' n c2, .slice ob' (List.length ts) c3].toArray, .bool (isEnv l m)] ∧ L = L' ∧
 Rep I' (.node [] ts) [.string (str []), .slice ob' ts.length c3] ∧ (isEnv l m = true → oa' = oa ∧ n = l.length ∧ c2 = c ∧ m.map typeOf = ts.map some)
/-- What 'env.look' returns. -/
def LK (o : Option Nat) (ts : List Tree) (I : Heap) (L : Own) : Post := fun v I' L' => ∃ t cs ok, v = .tuple #[.agg cs.toArray, .bool ok] ∧ I = I' ∧ L = L' ∧ Rep I t cs ∧ ok = o.isSome ∧ ∀ i, o = some i → ts[i]? = some t
/-- The type of a name in an environment. -/
def envLook (l m : List Txt) (s : Txt) : Option Txt := bif isEnv l m then (lastIdx l s).map fun i => m.getD i [] else none
def EL (o : Option Txt) (L : Own) : Post := fun v I' L' => v = .tuple #[.string (str (o.getD [])), .bool o.isSome] ∧ L = L'
section rules
variable {P : Program} {f : FuncId} {n : Nat} {I₀ : Heap} {Q : Post} {k : List Item} {E : Env} {I : Heap} {L : Own}
variable {ops : Array Oper} {d : Nat} {ty : TypeId} {pos : String} {af : Array Edge} {g : Option (Nat × Bool)} {l : List Oper}

theorem run_eqGuard_bool {op : BinOp} {T : TypeId} {x y : Operand} {a b : Bool} (w : World) : (eqGuard op T x y (.bool a) (.bool b)).run P w = .ok () w := by
 unfold eqGuard; split <;> rfl
def cmpBool : BinOp → Bool → Bool → Option Bool
 | .eql, a, b => some (a == b)
 | .neq, a, b => some (!(a == b))
 | _, _, _ => none
theorem y_cmpb {S : World → Prop} {op : BinOp} {T T' sz bb : Nat} {z : List Value} [ht : TyIs P T .bool sz bb z] {x y : Operand} {a b r : Bool} (hx : opd E x = some (.bool a)) (hy : opd E y = some (.bool b)) (hr : cmpBool op a b = some r) :
  Yld P E S ⟨some d, .binOp op T x y T', ty, pos, af, g⟩ (.bool r) := fun ac w he _ => by
 simp only [execOp, he.eval hx, he.eval hy]
 refine run_bind_ok (a := _) (w' := w) ?_ |>.trans rfl
 rw [run_bind_ok (run_eqGuard_bool w)]
 have h : ∀ d : Nat, (Op.equalIn (d + 1) T (.bool a) (.bool b)).run P w = .ok (a == b) w := fun d => by
  unfold Op.equalIn
  rw [run_bind_ok (run_underlying ht.und w)]
  rfl
 cases op <;> simp only [cmpBool, Option.some.injEq, reduceCtorEq] at hr
 ·subst hr
  simp only [binOp, Op.equal]
  exact run_bind_ok (h 9999) |>.trans rfl
 ·subst hr
  simp only [binOp, Op.equal]
  exact run_bind_ok (h 9999) |>.trans rfl
theorem o_cmpb {op : BinOp} {T T' sz bb : Nat} {z : List Value} [ht : TyIs P T .bool sz bb z] {x y : Operand} {a b r : Bool} (hx : opd E x = some (.bool a)) (hy : opd E y = some (.bool b)) (hr : cmpBool op a b = some r) (hg : Wants ops E g) (hdn : Nat.blt d n = true)
  (h : RunO P f n I₀ Q ops l k ((d, .bool r) :: E) I L) : RunO P f n I₀ Q ops (⟨some d, .binOp op T x y T', ty, pos, af, g⟩ :: l) k E I L := o_yld (y_cmpb hx hy hr) hg hdn h

theorem y_indexAddr' {S : World → Prop} {T e : TypeId} {sz bb esz ebb : Nat} {z ez : List Value} {dd : TypeDesc} [ht : TyIs P T (.slice e) sz bb z] [hte : TyIs P e dd esz ebb ez] {x y : Operand} {oa : Option Addr} {ad : Addr} {m c : Nat} {i : Int}
  (hx : opd E x = some (.slice oa m c)) (hy : opd E y = some (.int .i64 i)) (i' : Nat) (hi : i = i') (him : i' < m) (hoa : oa = some ad) : Yld P E S ⟨some d, .indexAddr T x y, ty, pos, af, g⟩ (.pointer (some (ad.add (i' * esz)))) :=
 y_indexAddr (hoa ▸ hx) hy i' hi him

end rules
/-- A list of texts as it comes in: no bound but the machine's. -/
structure Raw (I : Heap) (oa : Option Addr) (l : List Txt) (c : Nat) : Prop where
 still : ∀ x, oa = some x → Still I x (l.map sv)
 nil : oa = none → l = []
 cap : l.length ≤ c
 len : l.length ≤ 9223372036854775807
 each : ∀ s ∈ l, s.length ≤ 9223372036854775807
theorem Raw.at {I : Heap} {oa : Option Addr} {l : List Txt} {c : Nat} (h : Raw I oa l c) (i : Nat) (hi : i < l.length) : ∃ x, oa = some x ∧ Still I (x.add (i * 1)) [.string (str l[i])] := by
 cases oa with
 | none => have := h.nil rfl; subst this; simp at hi
 | some x =>
  refine ⟨x, rfl, (h.still x rfl).part (i * 1) ?_⟩
  intro j hj
  obtain rfl : j = 0 := by simpa using hj
  simp [hi, sv]

def SZ (left : Nat) (l : List Txt) (I : Heap) (L : Own) : Post := fun v I' L' => ∃ r : Int, v = .int .i64 r ∧ I = I' ∧ L = L' ∧ r ≤ left ∧ (0 ≤ r → l.length ≤ left ∧ ∀ s ∈ l, s.length ≤ left)
def TS (l : List Txt) (L : Own) : Post := fun v I' L' => ∃ x, v = .slice (some x) l.length l.length ∧ Strs I' (some x) l l.length ∧ L = L'
section rules
variable {P : Program} {f : FuncId} {n : Nat} {I₀ : Heap} {Q : Post} {k : List Item} {E : Env} {I : Heap} {L : Own}
variable {ops : Array Oper} {d : Nat} {ty : TypeId} {pos : String} {af : Array Edge} {g : Option (Nat × Bool)} {l : List Oper}

theorem y_rem {S : World → Prop} {T T' : TypeId} {x y : Operand} {a b : Nat} (hx : opd E x = some (.int .i64 (a : Nat))) (hy : opd E y = some (.int .i64 (b : Nat))) (hb : 0 < b) :
  Yld P E S ⟨some d, .binOp .rem T x y T', ty, pos, af, g⟩ (.int .i64 ((a % b : Nat))) := fun ac w he _ => by
 simp only [execOp, he.eval hx, he.eval hy]
 refine run_bind_ok (a := _) (w' := w) ?_ |>.trans rfl
 rw [run_bind_ok (run_eqGuard_int w)]
 have h0 : ¬ ((b : Int) = 0) := by omega
 have h1 : ((a : Int).tmod (b : Int)) = ((a % b : Nat) : Int) := by rw [Int.ofNat_tmod]
 simp only [binOp, Op.intDiv, if_neg h0, h1, ne_eq, not_true_eq_false, if_false]; rfl
theorem y_quo {S : World → Prop} {T T' : TypeId} {x y : Operand} {a b : Nat} (hx : opd E x = some (.int .i64 (a : Nat))) (hy : opd E y = some (.int .i64 (b : Nat))) (hb : 0 < b) (ha : a ≤ 9223372036854775807) :
  Yld P E S ⟨some d, .binOp .quo T x y T', ty, pos, af, g⟩ (.int .i64 ((a / b : Nat))) := fun ac w he _ => by
 simp only [execOp, he.eval hx, he.eval hy]
 refine run_bind_ok (a := _) (w' := w) ?_ |>.trans rfl
 rw [run_bind_ok (run_eqGuard_int w)]
 have h0 : ¬ ((b : Int) = 0) := by omega
 have h1 : ((a : Int).tdiv (b : Int)) = ((a / b : Nat) : Int) := by rw [Int.ofNat_tdiv]
 have h2 : IntKind.i64.wrap ((a / b : Nat) : Int) = ((a / b : Nat) : Int) := by
  obtain ⟨q, hq, hle⟩ : ∃ q, q = a / b ∧ q ≤ a := ⟨_, rfl, Nat.div_le_self a b⟩
  rw [← hq]; exact wrap_i64 (by omega)
 simp only [binOp, Op.intDiv, if_neg h0, h1, h2, ne_eq, not_true_eq_false, if_false]; rfl
/-- A byte as a number. -/
theorem y_byteInt {S : World → Prop} {src dst sz bb sz2 bb2 : Nat} {z z2 : List Value} [hs : TyIs P src (.int .u8) sz bb z] [hd : TyIs P dst (.int .i64) sz2 bb2 z2] {x : Operand} {a : Nat} (hx : opd E x = some (.int .u8 (a : Nat))) (ha : a < 256) :
  Yld P E S ⟨some d, .convert src dst x, ty, pos, af, g⟩ (.int .i64 (a : Nat)) := fun ac w he _ => by
 simp only [execOp, he.eval hx]
 refine run_bind_ok (a := .int .i64 (a : Nat)) (w' := w) ?_ |>.trans rfl
 unfold convert
 rw [run_bind_ok (run_underlying hs.und w), run_bind_ok (run_underlying hd.und w)]
 simp only [Conv.intToInt]
 rw [wrap_i64 (by omega)]
 rfl
theorem o_byteInt {src dst sz bb sz2 bb2 : Nat} {z z2 : List Value} [hs : TyIs P src (.int .u8) sz bb z] [hd : TyIs P dst (.int .i64) sz2 bb2 z2] {x : Operand} {a : Nat} (hx : opd E x = some (.int .u8 (a : Nat))) (ha : a < 256) (hg : Wants ops E g) (hdn : Nat.blt d n = true)
  (h : RunO P f n I₀ Q ops l k ((d, .int .i64 (a : Nat)) :: E) I L) : RunO P f n I₀ Q ops (⟨some d, .convert src dst x, ty, pos, af, g⟩ :: l) k E I L := o_yld (y_byteInt hx ha) hg hdn h
end rules

/-- A list of bytes as it comes in. -/
structure Bytes (I : Heap) (oa : Option Addr) (l : List UInt8) (c : Nat) : Prop where
 still : ∀ x, oa = some x → Still I x (l.map bv)
 nil : oa = none → l = []
 cap : l.length ≤ c
 len : l.length ≤ 9223372036854775807
theorem Bytes.mono {I I' : Heap} {oa : Option Addr} {l : List UInt8} {c : Nat} (hle : HLe I I') (h : Bytes I oa l c) : Bytes I' oa l c :=
 ⟨fun x hx => (h.still x hx).mono hle, h.nil, h.cap, h.len⟩
theorem Bytes.at {I : Heap} {oa : Option Addr} {l : List UInt8} {c : Nat} (h : Bytes I oa l c) (i : Nat) (hi : i < l.length) : ∃ x, oa = some x ∧ Still I (x.add (i * 1)) [.int .u8 (l[i].toNat : Nat)] := by
 cases oa with
 | none => have := h.nil rfl; subst this; simp at hi
 | some x =>
  refine ⟨x, rfl, (h.still x rfl).part (i * 1) ?_⟩
  intro j hj
  obtain rfl : j = 0 := by simpa using hj
  simp [hi, bv]
end Go.Proofs.YtfddjcmeejjhiaaGreatDoor
