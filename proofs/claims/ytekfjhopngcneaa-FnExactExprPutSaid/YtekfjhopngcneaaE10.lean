
/- Names that stand free, by the reference; closed expressions. No conditions. -/
import Derived.Test.YtekfjhopngcneaaE9
namespace Go.Proofs.Ytekfjhopngcneaa
set_option maxRecDepth 100000
set_option linter.unusedVariables false
set_option linter.unusedSimpArgs false

theorem d_freezeStrs {P : Program} {f : FuncId} {n : Nat} {I₀ : Heap} {Q : Post} {k : List Item} {ops : Array Oper} {S : World → Prop} {fuel : Nat} {listed : Array Bool} {E : Env} {I : Heap} {L : Own} {e : TypeId} {l : List Txt} {B : Buf} {m c : Nat}
    (hB : BufOk 1 m c (l.map sv) B) (hm : m = l.length) (hlen : l.length ≤ maxN) (hs : ∀ s ∈ l, s.length ≤ maxN)
    (h : ∀ I' oa c', HLe I I' → bufVal m c B = .slice oa l.length c' → Strs I' oa l c' → RunW P f n I₀ Q ops S fuel listed k E I' L) : RunW P f n I₀ Q ops S fuel listed k E I (bufOwn e (l.map sv) B ++ L) := by
  cases B with
  | none =>
    obtain ⟨h1, h2, h3⟩ := hB
    obtain rfl : l = [] := by simpa using h1
    exact h I .none 0 (.refl _) rfl ⟨by simp, by simp, by simp, hlen, hs⟩
  | some p =>
    obtain ⟨b, sp⟩ := p
    refine d_freeze fun hle => h _ (some ⟨b, 0, .none⟩) c hle (by rw [← hm]; rfl) ⟨fun y hy => ?_, by simp, by have := hB.2.1; omega, hlen, hs⟩
    cases hy; exact still_set
theorem Ex.binds_room1 {bd : List Txt} {e : Ex} {i : Nat} (h : bd.length + 2 ≤ 4294967296) : 0 + bd.length + (e.binds i).length ≤ 4294967296 := by
  have := e.binds_le i; omega
theorem strs_empty (I : Heap) (oa : Option Addr) : Strs I oa [] 0 := ⟨fun x _ => .inl rfl, fun _ => rfl, by simp, by simp [maxN], by simp⟩
theorem g_l2Binds {I : Heap} {e : Ex} {cs : List Value} (h : Rep I e.tree cs) (hok : e.ok = true) (hb : e.bare = false) (i : Nat) (hi : i ∈ kids e.tree) (L : Own) : Fun Try.prog 25 [.agg cs.toArray, .int .i64 (i : Nat)] I L (SS (e.binds i) L) := by
  obtain ⟨oa, c, oaf, cf, rfl, hf⟩ := h.at'
  have hg := (Ex.tree_good hok).1
  have h0 : 0 < e.tree.parts.length := by
    rw [Ex.bare_parts] at hb
    have : e.tree.parts ≠ [] := by intro hh; rw [hh] at hb; cases hb
    exact List.length_pos_iff.2 this
  have hhd := head_at h0
  refine fun_intro (by simp) ?_
  refine s_seq ?_
  refine o_enter rfl ?_
  refine o_box rfl rfl .free rfl ?_
  intro b2
  refine o_assign rfl .free rfl ?_
  refine o_done ?_
  refine s_seq ?_
  refine s_block ?_
  refine s_seq ?_
  refine o_enter rfl ?_
  refine o_fieldAddr rfl .free rfl ?_
  refine o_load rfl (loads_own1 (by first | exact m0 | exact m1 | exact m2 | exact m3 | exact m4 | exact m5 | exact m6) (by rfl) rfl) .free rfl ?_
  first | refine o_indexAddrD rfl rfl 0 rfl (by first | omega | exact lt_of (by assumption) (by decide) | (simp; done) | (simp; omega) | decide | (simp at *; omega)) (by first | assumption | exact FormAt.nil (by assumption) | exact Strs.nil' (by assumption) | exact Nums.nil' (by assumption) | exact Raw.nil' (by assumption)) .free rfl ?_ | refine o_indexAddr' rfl rfl 0 rfl (by first | omega | exact lt_of (by assumption) (by decide) | (simp; done) | (simp; omega) | decide | (simp at *; omega)) (by first | rfl | assumption) .free rfl ?_
  refine o_fieldAddr' rfl .free rfl ?_
  refine o_load rfl (by first | exact loads_stillF (FormAt.st (by assumption) _ (by first | omega | decide | (simp; done) | exact lt_of (by assumption) (by decide))) (by rfl) rfl | exact loads_stillF (by assumption) (by rfl) rfl | exact loads_scalar rfl (reads_cut (reads_sub (by assumption) (by intro _ h; first | exact h | exact dr1 h | exact dr2 h | exact dr3 h | exact dr4 h | exact dr5 h | exact dr6 h)) (by rfl))) .free rfl ?_
  refine o_cmps rfl rfl rfl .free rfl ?_
  refine o_move rfl .free rfl ?_
  apply o_and 12 15 rfl
  · intro g1_7 hk
    try simp only [Bool.and_eq_true, Bool.or_eq_true, Bool.not_eq_true', Bool.not_eq_false', Bool.and_eq_false_iff, Bool.or_eq_false_iff, decide_eq_true_eq, decide_eq_false_iff_not] at g1_7
    refine o_move rfl (.met rfl rfl) rfl ?_
    refine o_cmp rfl rfl rfl (.met rfl rfl) rfl ?_
    refine o_pick_true rfl rfl .free rfl ?_
    exact o_fin 2 rfl rfl hk
  · intro _ hk
    refine o_skips 2 rfl ?_
    refine o_pick_false rfl rfl .free rfl ?_
    exact o_fin 2 rfl rfl hk
  refine o_assign rfl .free rfl ?_
  refine o_done ?_
  refine s_cond rfl ?_ ?_
  · intro c0
    try simp only [Bool.and_eq_true, Bool.or_eq_true, Bool.not_eq_true', Bool.not_eq_false', Bool.and_eq_false_iff, Bool.or_eq_false_iff, decide_eq_true_eq, decide_eq_false_iff_not] at c0
    obtain ⟨x, a, b, rfl⟩ := Ex.of_let (hhd.trans c0.1)
    obtain rfl : i = 3 := by omega
    simp only [Ex.ok, Bool.and_eq_true] at hok
    have hlen : (Ex.lt x a b).tree.parts.length = 4 := rfl
    have hx : ((Ex.lt x a b).tree.pt 1).atom.length ≤ maxN := Ex.name_len hok.1.1
    refine s_seq ?_
    refine o_enter rfl ?_
    refine o_fieldAddr rfl .free rfl ?_
    refine o_load rfl (loads_own1 (by first | exact m0 | exact m1 | exact m2 | exact m3 | exact m4 | exact m5 | exact m6) (by rfl) rfl) .free rfl ?_
    first | refine o_indexAddrD rfl rfl 1 rfl (by first | omega | exact lt_of (by assumption) (by decide) | (simp; done) | (simp; omega) | decide | (simp at *; omega)) (by first | assumption | exact FormAt.nil (by assumption) | exact Strs.nil' (by assumption) | exact Nums.nil' (by assumption) | exact Raw.nil' (by assumption)) .free rfl ?_ | refine o_indexAddr' rfl rfl 1 rfl (by first | omega | exact lt_of (by assumption) (by decide) | (simp; done) | (simp; omega) | decide | (simp at *; omega)) (by first | rfl | assumption) .free rfl ?_
    refine o_fieldAddr' rfl .free rfl ?_
    refine o_load rfl (by first | exact loads_stillF (FormAt.st (by assumption) _ (by first | omega | decide | (simp; done) | exact lt_of (by assumption) (by decide))) (by rfl) rfl | exact loads_stillF (by assumption) (by rfl) rfl | exact loads_scalar rfl (reads_cut (reads_sub (by assumption) (by intro _ h; first | exact h | exact dr1 h | exact dr2 h | exact dr3 h | exact dr4 h | exact dr5 h | exact dr6 h)) (by rfl))) .free rfl ?_
    refine o_lits rfl rfl (by rfl) (by rfl) (by rfl) (by decide) (by decide) (by rfl) .free rfl ?_
    intro b21
    refine o_assign rfl .free rfl ?_
    refine o_done ?_
    refine s_freeze ?_
    intro hz
    refine s_ret (.tmp rfl .nil) ?_
    exact ⟨_, L, hz, (by intro _ h; first | exact h | exact dr1 h | exact dr2 h | exact dr3 h | exact dr4 h | exact dr5 h | exact dr6 h), some ⟨b21, 0, none⟩, 1, rfl, strs_lit1 hz hx, rfl⟩
  · intro c0
    try simp only [Bool.and_eq_true, Bool.or_eq_true, Bool.not_eq_true', Bool.not_eq_false', Bool.and_eq_false_iff, Bool.or_eq_false_iff, decide_eq_true_eq, decide_eq_false_iff_not] at c0
    refine s_seq ?_
    refine o_enter rfl ?_
    refine o_fieldAddr rfl .free rfl ?_
    refine o_load rfl (loads_own1 (by first | exact m0 | exact m1 | exact m2 | exact m3 | exact m4 | exact m5 | exact m6) (by rfl) rfl) .free rfl ?_
    first | refine o_indexAddrD rfl rfl 0 rfl (by first | omega | exact lt_of (by assumption) (by decide) | (simp; done) | (simp; omega) | decide | (simp at *; omega)) (by first | assumption | exact FormAt.nil (by assumption) | exact Strs.nil' (by assumption) | exact Nums.nil' (by assumption) | exact Raw.nil' (by assumption)) .free rfl ?_ | refine o_indexAddr' rfl rfl 0 rfl (by first | omega | exact lt_of (by assumption) (by decide) | (simp; done) | (simp; omega) | decide | (simp at *; omega)) (by first | rfl | assumption) .free rfl ?_
    refine o_fieldAddr' rfl .free rfl ?_
    refine o_load rfl (by first | exact loads_stillF (FormAt.st (by assumption) _ (by first | omega | decide | (simp; done) | exact lt_of (by assumption) (by decide))) (by rfl) rfl | exact loads_stillF (by assumption) (by rfl) rfl | exact loads_scalar rfl (reads_cut (reads_sub (by assumption) (by intro _ h; first | exact h | exact dr1 h | exact dr2 h | exact dr3 h | exact dr4 h | exact dr5 h | exact dr6 h)) (by rfl))) .free rfl ?_
    refine o_cmps rfl rfl rfl .free rfl ?_
    refine o_assign rfl .free rfl ?_
    refine o_done ?_
    refine s_cond rfl ?_ ?_
    · intro c1
      try simp only [Bool.and_eq_true, Bool.or_eq_true, Bool.not_eq_true', Bool.not_eq_false', Bool.and_eq_false_iff, Bool.or_eq_false_iff, decide_eq_true_eq, decide_eq_false_iff_not] at c1
      obtain ⟨f, x, s, t, b, rfl⟩ := Ex.of_fun (hhd.trans c1)
      obtain rfl : i = 5 := by rw [kids_fn] at hi; simpa using hi
      simp only [Ex.ok, Bool.and_eq_true] at hok
      have hlen : (Ex.fn f x s t b).tree.parts.length = 6 := rfl
      have hx1 : ((Ex.fn f x s t b).tree.pt 1).atom.length ≤ maxN := Ex.name_len hok.1.1.1.1.1
      have hx2 : ((Ex.fn f x s t b).tree.pt 2).atom.length ≤ maxN := Ex.name_len hok.1.1.1.1.2
      refine s_seq ?_
      refine d_all 12 rfl rfl ?_
      refine d_takeA 0 rfl (by kernel_rfl) rfl (.inr heldx) (y_fieldAddr rfl) .free rfl ?_
      refine d_take 1 [12] rfl (by kernel_rfl) rfl heldx (y_load rfl (loads_own1 (by first | exact m0 | exact m1 | exact m2 | exact m3 | exact m4 | exact m5 | exact m6) (by rfl) rfl)) .free rfl ?_
      first | refine d_takeA 2 rfl (by kernel_rfl) rfl (.inr heldx) (y_indexAddrD rfl rfl 1 rfl (by first | omega | exact lt_of (by assumption) (by decide) | (simp; done) | (simp; omega) | decide | (simp at *; omega)) (by first | assumption | exact FormAt.nil (by assumption) | exact Strs.nil' (by assumption) | exact Nums.nil' (by assumption) | exact Raw.nil' (by assumption))) .free rfl ?_ | refine d_takeA 2 rfl (by kernel_rfl) rfl (.inr heldx) (y_indexAddr' rfl rfl 1 rfl (by first | omega | exact lt_of (by assumption) (by decide) | (simp; done) | (simp; omega) | decide | (simp at *; omega)) (by first | rfl | assumption)) .free rfl ?_
      refine d_takeA 3 rfl (by kernel_rfl) rfl (.inr heldx) (y_fieldAddr' rfl) .free rfl ?_
      refine d_take 4 [12] rfl (by kernel_rfl) rfl heldx (y_load rfl (by first | exact loads_stillF (FormAt.st (by assumption) _ (by first | omega | decide | (simp; done) | exact lt_of (by assumption) (by decide))) (by rfl) rfl | exact loads_stillF (by assumption) (by rfl) rfl | exact loads_scalar rfl (reads_cut (reads_sub (by assumption) (by intro _ h; first | exact h | exact dr1 h | exact dr2 h | exact dr3 h | exact dr4 h | exact dr5 h | exact dr6 h)) (by rfl)))) .free rfl ?_
      refine d_takeA 5 rfl (by kernel_rfl) rfl (.inr heldx) (y_fieldAddr rfl) .free rfl ?_
      refine d_take 6 [12] rfl (by kernel_rfl) rfl heldx (y_load rfl (loads_own1 (by first | exact m0 | exact m1 | exact m2 | exact m3 | exact m4 | exact m5 | exact m6) (by rfl) rfl)) .free rfl ?_
      first | refine d_takeA 7 rfl (by kernel_rfl) rfl (.inr heldx) (y_indexAddrD rfl rfl 2 rfl (by first | omega | exact lt_of (by assumption) (by decide) | (simp; done) | (simp; omega) | decide | (simp at *; omega)) (by first | assumption | exact FormAt.nil (by assumption) | exact Strs.nil' (by assumption) | exact Nums.nil' (by assumption) | exact Raw.nil' (by assumption))) .free rfl ?_ | refine d_takeA 7 rfl (by kernel_rfl) rfl (.inr heldx) (y_indexAddr' rfl rfl 2 rfl (by first | omega | exact lt_of (by assumption) (by decide) | (simp; done) | (simp; omega) | decide | (simp at *; omega)) (by first | rfl | assumption)) .free rfl ?_
      refine d_takeA 8 rfl (by kernel_rfl) rfl (.inr heldx) (y_fieldAddr' rfl) .free rfl ?_
      refine d_take 9 [12] rfl (by kernel_rfl) rfl heldx (y_load rfl (by first | exact loads_stillF (FormAt.st (by assumption) _ (by first | omega | decide | (simp; done) | exact lt_of (by assumption) (by decide))) (by rfl) rfl | exact loads_stillF (by assumption) (by rfl) rfl | exact loads_scalar rfl (reads_cut (reads_sub (by assumption) (by intro _ h; first | exact h | exact dr1 h | exact dr2 h | exact dr3 h | exact dr4 h | exact dr5 h | exact dr6 h)) (by rfl)))) .free rfl ?_
      refine d_lits 10 rfl (by kernel_rfl) rfl rfl rfl (by rfl) (by rfl) (by rfl) (by decide) (by decide) (by rfl) .free rfl (.inr heldx) ?_
      intro b39
      refine d_takeA 11 rfl (by kernel_rfl) rfl (.inr heldx) (y_assign rfl) .free rfl ?_
      refine d_done (by kernel_rfl) ?_
      refine s_freeze ?_
      intro hz
      refine s_ret (.tmp rfl .nil) ?_
      exact ⟨_, L, hz, (by intro _ h; first | exact h | exact dr1 h | exact dr2 h | exact dr3 h | exact dr4 h | exact dr5 h | exact dr6 h), some ⟨b39, 0, none⟩, 2, rfl, strs_lit2 hz hx1 hx2, rfl⟩
    · intro c1
      try simp only [Bool.and_eq_true, Bool.or_eq_true, Bool.not_eq_true', Bool.not_eq_false', Bool.and_eq_false_iff, Bool.or_eq_false_iff, decide_eq_true_eq, decide_eq_false_iff_not] at c1
      refine s_skip ?_
      refine s_inBlock ?_
      refine s_seq ?_
      refine o_enter rfl ?_
      refine o_lits0 .free rfl ?_
      intro b40
      refine o_assign rfl .free rfl ?_
      refine o_done ?_
      refine s_ret (.tmp rfl .nil) ?_
      have hbd : e.binds i = [] := by
        cases e with
        | lt x a b => exact if_neg fun hi => by rcases c0 with h | h; exact h rfl; omega
        | fn f x s t b => exact absurd rfl c1
        | _ => rfl
      exact ⟨I, L, .refl _, (by intro _ h; first | exact h | exact dr1 h | exact dr2 h | exact dr3 h | exact dr4 h | exact dr5 h | exact dr6 h), some ⟨b40, 0, none⟩, 0, by rw [hbd]; rfl, by rw [hbd]; exact strs_empty I _, rfl⟩

/-- What the reference's gathering of names returns: its list, in a block of the call's own. -/
def LP (l : List Txt) (L : Own) : Post := fun v I' L' => ∃ B c, v = bufVal l.length c B ∧ BufOk 1 l.length c (l.map sv) B ∧ L' = bufOwn 9 (l.map sv) B ++ L
theorem has_buf {l : List Txt} {B : Buf} {c : Nat} (hB : BufOk 1 l.length c (l.map sv) B) (hl : l.length ≤ maxN) (I : Heap) (p : Nat × Obj) (L : Own) (s : Txt) :
    Fun Try.prog 24 [bufVal l.length c B, .string (str s)] I (p :: (bufOwn 9 (l.map sv) B ++ L)) (Only (.bool (decide (s ∈ l))) I (p :: (bufOwn 9 (l.map sv) B ++ L))) := by
  obtain ⟨oa, c', hbv, hrd⟩ := buf_rd (I := I) (L := L) (e := 9) hB rfl hl
  rw [hbv]
  exact g_l1Has (hrd.sub fun w h => h.drop) c' s
theorem addAll_one {l : List Txt} {s : Txt} (h : s ∉ l) : addAll l [s] = l ++ [s] := by simp [addAll, addOnce, h]
theorem addAll_in {l : List Txt} {s : Txt} (h : s ∈ l) : addAll l [s] = l := by simp [addAll, addOnce, h]
theorem addAll_room {l bd : List Txt} {e : Ex} {k n : Nat} (h : l.length + (e.size + k) ≤ n) : (addAll l (e.occ bd)).length + k ≤ n := by
  have := addAll_len l (e.occ bd); have := e.occ_len bd; omega
theorem addAll_room2 {l bd bd' : List Txt} {e e' : Ex} {k n : Nat} (h : l.length + (e.size + (e'.size + k)) ≤ n) : (addAll (addAll l (e.occ bd)) (e'.occ bd')).length + k ≤ n := addAll_room (addAll_room h)
theorem g_l2Free : ∀ (n : Nat) {I : Heap} {e : Ex} {cs : List Value} (_ : SizeOf.sizeOf e < n) (_ : Rep I e.tree cs) (_ : e.ok = true) {bd : List Txt} {ob : Option Addr} {cb : Nat} (_ : Strs I ob bd cb) (_ : bd.length + 2 * e.size ≤ maxN)
      (l : List Txt) (B : Buf) (c : Nat) (_ : l.length + e.size ≤ 4294967295) (_ : BufOk 1 l.length c (l.map sv) B) (L : Own),
    Fun Try.prog 43 [.agg cs.toArray, .slice ob bd.length cb, bufVal l.length c B] I (bufOwn 9 (l.map sv) B ++ L) (LP (addAll l (e.occ bd)) L) := by
  intro n
  induction n with
  | zero => intro I e cs h; omega
  | succ n ihn =>
    intro I e cs hlt h hok bd ob cb hbd hbl l B c hl hB L
    obtain ⟨oa, cc, oaf, cf, rfl, hf⟩ := h.at'
    have ha := hf.alen
    have hlN : l.length ≤ maxN := by unfold maxN; omega
    unfold maxN at hbl
    refine fun_intro (by simp) ?_
    refine s_seq ?_
    refine o_enter rfl ?_
    refine o_box rfl rfl .free rfl ?_
    intro b3
    refine o_assign rfl .free rfl ?_
    refine o_done ?_
    refine s_seq ?_
    refine s_seq ?_
    refine o_enter rfl ?_
    refine o_fieldAddr rfl .free rfl ?_
    refine o_load rfl (loads_own1 (by first | exact m0 | exact m1 | exact m2 | exact m3 | exact m4 | exact m5 | exact m6) (by rfl) rfl) .free rfl ?_
    refine o_cmps rfl rfl rfl .free rfl ?_
    refine o_done ?_
    refine s_cond rfl ?_ ?_
    · intro c0
      try simp only [Bool.and_eq_true, Bool.or_eq_true, Bool.not_eq_true', Bool.not_eq_false', Bool.and_eq_false_iff, Bool.or_eq_false_iff, decide_eq_true_eq, decide_eq_false_iff_not] at c0
      have hb : e.bare = true := by
        cases hb : e.bare with
        | true => rfl
        | false => exact absurd ((Ex.atom_iff hok).2 hb) c0
      refine s_seq ?_
      refine s_seq ?_
      refine o_enter rfl ?_
      refine o_fieldAddr rfl .free rfl ?_
      refine o_load rfl (loads_own1 (by first | exact m0 | exact m1 | exact m2 | exact m3 | exact m4 | exact m5 | exact m6) (by rfl) rfl) .free rfl ?_
      refine o_call rfl .free rfl (g_l2Name e.tree.atom ha _ _) ?_
      rintro _ _ _ _ ⟨rfl, rfl, rfl⟩
      refine o_not rfl .free rfl ?_
      refine o_move rfl .free rfl ?_
      apply o_or 17 22 rfl
      · intro g2_5 hk
        try simp only [Bool.and_eq_true, Bool.or_eq_true, Bool.not_eq_true', Bool.not_eq_false', Bool.and_eq_false_iff, Bool.or_eq_false_iff, decide_eq_true_eq, decide_eq_false_iff_not] at g2_5
        refine o_move rfl (.met rfl rfl) rfl ?_
        refine o_fieldAddr rfl (.met rfl rfl) rfl ?_
        refine o_load rfl (loads_own1 (by first | exact m0 | exact m1 | exact m2 | exact m3 | exact m4 | exact m5 | exact m6) (by rfl) rfl) (.met rfl rfl) rfl ?_
        refine o_call rfl (.met rfl rfl) rfl (g_l1Has (hbd.rd _) cb e.tree.atom) ?_
        rintro _ _ _ _ ⟨rfl, rfl, rfl⟩
        refine o_pick_false rfl rfl .free rfl ?_
        exact o_fin 4 rfl rfl hk
      · intro _ hk
        refine o_skips 4 rfl ?_
        refine o_pick_true rfl rfl .free rfl ?_
        exact o_fin 4 rfl rfl hk
      refine o_move rfl .free rfl ?_
      apply o_or 23 28 rfl
      · intro g2_11 hk
        try simp only [Bool.and_eq_true, Bool.or_eq_true, Bool.not_eq_true', Bool.not_eq_false', Bool.and_eq_false_iff, Bool.or_eq_false_iff, decide_eq_true_eq, decide_eq_false_iff_not] at g2_11
        refine o_move rfl (.met rfl rfl) rfl ?_
        refine o_fieldAddr rfl (.met rfl rfl) rfl ?_
        refine o_load rfl (loads_own1 (by first | exact m0 | exact m1 | exact m2 | exact m3 | exact m4 | exact m5 | exact m6) (by rfl) rfl) (.met rfl rfl) rfl ?_
        refine o_call rfl (.met rfl rfl) rfl (has_buf hB hlN _ _ _ _) ?_
        rintro _ _ _ _ ⟨rfl, rfl, rfl⟩
        refine o_pick_false rfl rfl .free rfl ?_
        exact o_fin 4 rfl rfl hk
      · intro _ hk
        refine o_skips 4 rfl ?_
        refine o_pick_true rfl rfl .free rfl ?_
        exact o_fin 4 rfl rfl hk
      refine o_done ?_
      refine s_cond rfl ?_ ?_
      · intro c1
        try simp only [Bool.and_eq_true, Bool.or_eq_true, Bool.not_eq_true', Bool.not_eq_false', Bool.and_eq_false_iff, Bool.or_eq_false_iff, decide_eq_true_eq, decide_eq_false_iff_not] at c1
        refine s_seq ?_
        refine o_enter rfl ?_
        refine o_move rfl .free rfl ?_
        refine o_assign rfl .free rfl ?_
        refine o_done ?_
        refine s_ret (.tmp rfl .nil) ?_
        have hoc : addAll l (e.occ bd) = l := by
          cases e with
          | num s => rfl
          | name s =>
            have c1 : (isName s = false ∨ s ∈ bd) ∨ s ∈ l := c1
            rcases c1 with (h | h) | h
            · rw [show isName s = true from hok] at h; cases h
            · simp only [Ex.occ]; rw [if_pos h]; rfl
            · simp only [Ex.occ]
              split
              · rfl
              · exact addAll_in h
          | _ => cases hb
        exact ⟨I, _, .refl _, fun w h => h.drop, B, c, by rw [hoc]; rfl, by rw [hoc]; exact hB, by rw [hoc]⟩
      · intro c1
        try simp only [Bool.and_eq_true, Bool.or_eq_true, Bool.not_eq_true', Bool.not_eq_false', Bool.and_eq_false_iff, Bool.or_eq_false_iff, decide_eq_true_eq, decide_eq_false_iff_not] at c1
        refine s_skip ?_
        refine s_seq ?_
        refine o_enter rfl ?_
        refine o_move rfl .free rfl ?_
        refine o_fieldAddr rfl .free rfl ?_
        refine o_load rfl (loads_own1 (by first | exact m0 | exact m1 | exact m2 | exact m3 | exact m4 | exact m5 | exact m6) (by rfl) rfl) .free rfl ?_
        refine o_lits rfl rfl (by rfl) (by rfl) (by rfl) (by decide) (by decide) (by rfl) .free rfl ?_
        intro b33
        refine o_append (B := B) (xs := l.map sv) (ys := [sv e.tree.atom]) (m := l.length) (c := c) (by intro kk; simp) (by rfl) rfl rfl hB (fun _ h => h.u2) (by rfl) (fun a ha => by cases ha; exact reads_ownL (.head _) (by rfl)) (by simp) (by rfl) (by decide) (by decide) (by have := e.size_pos; omega) (by decide) .free rfl ?_
        intro bb sp c2 hB'
        refine o_assign rfl .free rfl ?_
        refine o_done ?_
        refine s_ret (.tmp rfl .nil) ?_
        have hoc : addAll l (e.occ bd) = l ++ [e.tree.atom] := by
          cases e with
          | num s =>
            have h1 : isName s = true := c1.1.1
            have h2 := name_not_num h1
            rw [show isNum s = true from hok] at h2; cases h2
          | name s =>
            have c1 : (isName s = true ∧ ¬ s ∈ bd) ∧ ¬ s ∈ l := c1
            simp only [Ex.occ]; rw [if_neg c1.1.2]; exact addAll_one c1.2
          | _ => cases hb
        exact ⟨I, _, .refl _, fun w h => Mem.sub (L' := (bb, _) :: L) (by repeat (first | exact List.Sublist.refl _ | apply List.Sublist.cons_cons | apply List.Sublist.cons)) h, some (bb, sp), c2, by rw [hoc]; simp [retOne, bufVal], by rw [hoc]; simpa using hB', by rw [hoc]; simp [bufOwn]⟩
    · intro c0
      try simp only [Bool.and_eq_true, Bool.or_eq_true, Bool.not_eq_true', Bool.not_eq_false', Bool.and_eq_false_iff, Bool.or_eq_false_iff, decide_eq_true_eq, decide_eq_false_iff_not] at c0
      have hb : e.bare = false := (Ex.atom_iff hok).1 (by simpa using c0)
      have hsh := e.shapes hb
      have h0 : 0 < e.tree.parts.length := by
        rw [Ex.bare_parts] at hb
        have : e.tree.parts ≠ [] := by intro hh; rw [hh] at hb; cases hb
        exact List.length_pos_iff.2 this
      have hhd := head_at h0
      have hok0 := hok
      have hle : HLe I I := .refl _
      refine s_skip ?_
      refine s_seq ?_
      refine o_enter rfl ?_
      refine o_fieldAddr rfl .free rfl ?_
      refine o_load rfl (loads_own1 (by first | exact m0 | exact m1 | exact m2 | exact m3 | exact m4 | exact m5 | exact m6) (by rfl) rfl) .free rfl ?_
      first | refine o_indexAddrD rfl rfl 0 rfl (by first | omega | exact lt_of (by assumption) (by decide) | (simp; done) | (simp; omega) | decide | (simp at *; omega)) (by first | assumption | exact FormAt.nil (by assumption) | exact Strs.nil' (by assumption) | exact Nums.nil' (by assumption) | exact Raw.nil' (by assumption)) .free rfl ?_ | refine o_indexAddr' rfl rfl 0 rfl (by first | omega | exact lt_of (by assumption) (by decide) | (simp; done) | (simp; omega) | decide | (simp at *; omega)) (by first | rfl | assumption) .free rfl ?_
      refine o_fieldAddr' rfl .free rfl ?_
      refine o_load rfl (by first | exact loads_stillF (FormAt.st (by assumption) _ (by first | omega | decide | (simp; done) | exact lt_of (by assumption) (by decide))) (by rfl) rfl | exact loads_stillF (by assumption) (by rfl) rfl | exact loads_scalar rfl (reads_cut (reads_sub (by assumption) (by intro _ h; first | exact h | exact dr1 h | exact dr2 h | exact dr3 h | exact dr4 h | exact dr5 h | exact dr6 h)) (by rfl))) .free rfl ?_
      refine o_call rfl .free rfl (g_l2Kids (e.tree.pt 0).atom _ _) ?_
      rw [← hhd]; rintro _ _ _ _ ⟨rfl, rfl, rfl⟩
      refine o_move rfl .free rfl ?_
      refine o_extract rfl rfl .free rfl ?_
      refine o_extract rfl rfl .free rfl ?_
      refine o_assign rfl .free rfl ?_
      refine o_assign rfl .free rfl ?_
      refine o_done ?_
      refine s_seq ?_
      refine s_seq ?_
      rcases hsh with ⟨o, a, b, rfl⟩ | ⟨a, b, d, rfl⟩ | ⟨z, a, b, rfl⟩ | ⟨g, z, s, t, b, rfl⟩ | ⟨o, a, rfl⟩
      · skip
        have hk : kidRange (Ex.bin o a b).tree.head = (1, 3) := by cases o <;> rfl
        rw [hk]
        have hlen : (Ex.bin o a b).tree.parts.length = 3 := rfl
        have hki := kids_bin o a b
        simp only [Ex.bin.sizeOf_spec] at hlt
        simp only [Ex.size] at hbl hl
        simp only [Ex.ok, Bool.and_eq_true] at hok
        refine o_enter rfl ?_
        refine o_move rfl .free rfl ?_
        refine o_assign rfl .free rfl ?_
        refine o_done ?_
        refine s_block ?_
        refine s_loop ?_
        refine s_seq ?_
        refine s_seq ?_
        refine o_enter rfl ?_
        refine o_move rfl .free rfl ?_
        refine o_move rfl .free rfl ?_
        refine o_cmp rfl rfl rfl .free rfl ?_
        refine o_done ?_
        refine s_condT rfl (by first | rfl | decide | (simp; done) | omega) ?_
        refine s_skip ?_
        refine s_seq ?_
        refine s_block ?_
        refine d_x 15 rfl rfl ?_
        refine d_takeA 0 rfl (by kernel_rfl) rfl (.inr heldx) (y_fieldAddr rfl) .free rfl ?_
        refine d_take 1 [15] rfl (by kernel_rfl) rfl heldx (y_load rfl (loads_own1 (by first | exact m0 | exact m1 | exact m2 | exact m3 | exact m4 | exact m5 | exact m6) (by rfl) rfl)) .free rfl ?_
        refine d_takeA 2 rfl (by kernel_rfl) rfl (.inr heldx) (y_move rfl) .free rfl ?_
        first | refine d_takeA 3 rfl (by kernel_rfl) rfl (.inr heldx) (y_indexAddrD rfl rfl _ rfl (by first | omega | exact lt_of (by assumption) (by decide) | (simp; done) | (simp; omega) | decide | (simp at *; omega)) (by first | assumption | exact FormAt.nil (by assumption) | exact Strs.nil' (by assumption) | exact Nums.nil' (by assumption) | exact Raw.nil' (by assumption))) .free rfl ?_ | refine d_takeA 3 rfl (by kernel_rfl) rfl (.inr heldx) (y_indexAddr' rfl rfl _ rfl (by first | omega | exact lt_of (by assumption) (by decide) | (simp; done) | (simp; omega) | decide | (simp at *; omega)) (by first | rfl | assumption)) .free rfl ?_
        refine d_take 4 [15] rfl (by kernel_rfl) rfl heldx (y_load rfl (by first | exact loads_stillS (FormAt.st (by assumption) _ (by first | omega | decide | (simp; done) | exact lt_of (by assumption) (by decide))) (by rfl) | exact loads_stillS (by assumption) (by rfl) | exact loads_rd (reads_sub (by assumption) (by intro _ h; first | exact h | exact dr1 h | exact dr2 h | exact dr3 h | exact dr4 h | exact dr5 h | exact dr6 h)) (by rfl))) .free rfl ?_
        refine d_takeA 6 rfl (by kernel_rfl) rfl (.inr heldx) (y_move rfl) .free rfl ?_
        refine d_take 8 [15] rfl (by kernel_rfl) rfl heldx (y_load rfl (loads_ownS (by first | exact m0 | exact m1 | exact m2 | exact m3 | exact m4 | exact m5 | exact m6) (by rfl))) .free rfl ?_
        refine d_takeA 9 rfl (by kernel_rfl) rfl (.inr heldx) (y_move rfl) .free rfl ?_
        refine d_takeA 12 rfl (by kernel_rfl) rfl (.inr heldx) (y_move rfl) .free rfl ?_
        refine d_lits0 5 rfl (by kernel_rfl) rfl .free rfl (.inr heldx) ?_
        intro b55
        refine d_appendB 7 (B := some (b55, [])) (xs := []) (ys := bd.map sv) (m := 0) (c := 0) rfl (by kernel_rfl) rfl (by intro kk; simp) (by rfl) rfl rfl ⟨rfl, Nat.le_refl _, rfl⟩ (fun _ h => h) (by simp) hbd.reads hbd.none (sv_plain bd) (by decide) (by omega) (by decide) .free rfl (fun _ => .inr heldx) ?_
        intro B1 c1' hB1
        refine d_call 10 rfl (by kernel_rfl) rfl rfl .free rfl (g_l2Binds hf.rep hok0 hb _ (by rw [hki]; decide) _) ?_
        rintro _ J1 _ e1 ⟨o1, k1, rfl, hs1, rfl⟩
        have hbd1 := hbd.mono e1
        refine ⟨(.inr heldx), ?_⟩
        refine d_appendB 11 (B := B1) (xs := bd.map sv) (ys := (Ex.binds _ _).map sv) (m := 0 + bd.length) (c := c1') rfl (by kernel_rfl) rfl (by intro kk; simp) (by rfl) rfl rfl hB1 (fun _ h => h) (by simp) hs1.reads hs1.none (sv_plain _) (by decide) (Ex.binds_room1 (by omega)) (by decide) .free rfl (fun _ => .inr heldx) ?_
        intro B2 c2' hB2
        rw [← List.map_append] at hB2 ⊢
        refine d_freezeStrs (l := bd ++ Ex.binds _ _) hB2 (by simp) (by rw [List.length_append]; exact Ex.binds_room0 (by omega)) (hbd1.append hs1) ?_
        intro J3 o3 k3 ez hbv hs3
        refine d_put (t := 61) rfl hbv ?_
        have e4 := e1.trans ez
        have hf3 := hf.mono e4
        refine d_mem (fun w h => h.u1) ?_
        refine d_call 13 rfl (by kernel_rfl) rfl rfl .free rfl (ihn (by omega) (hf3.as 1 a.tree (by omega) rfl) hok.1 hs3 (Ex.binds_room (by omega)) _ _ _ (by omega) hB _) ?_
        rintro _ J4 _ e5 ⟨B, c, rfl, hB, rfl⟩
        have e6 := e4.trans e5
        refine ⟨(.inr heldx), ?_⟩
        refine d_mem (fun w h => h.w1) ?_
        have hf := hf.mono e6
        have hbd := hbd.mono e6
        have hle := hle.trans e6
        refine d_takeA 14 rfl (by kernel_rfl) rfl (.inr heldx) (y_assign rfl) .free rfl ?_
        refine d_done (by kernel_rfl) ?_
        refine s_inBlock ?_
        refine o_enter rfl ?_
        refine o_move rfl .free rfl ?_
        refine o_arith rfl rfl rfl (by omega) .free rfl ?_
        refine o_assign rfl .free rfl ?_
        refine o_done ?_
        refine s_round ?_
        refine s_seq ?_
        refine s_seq ?_
        refine o_enter rfl ?_
        refine o_move rfl .free rfl ?_
        refine o_move rfl .free rfl ?_
        refine o_cmp rfl rfl rfl .free rfl ?_
        refine o_done ?_
        refine s_condT rfl (by first | rfl | decide | (simp; done) | omega) ?_
        refine s_skip ?_
        refine s_seq ?_
        refine s_block ?_
        refine d_x 15 rfl rfl ?_
        refine d_takeA 0 rfl (by kernel_rfl) rfl (.inr heldx) (y_fieldAddr rfl) .free rfl ?_
        refine d_take 1 [15] rfl (by kernel_rfl) rfl heldx (y_load rfl (loads_own1 (by first | exact m0 | exact m1 | exact m2 | exact m3 | exact m4 | exact m5 | exact m6) (by rfl) rfl)) .free rfl ?_
        refine d_takeA 2 rfl (by kernel_rfl) rfl (.inr heldx) (y_move rfl) .free rfl ?_
        first | refine d_takeA 3 rfl (by kernel_rfl) rfl (.inr heldx) (y_indexAddrD rfl rfl _ rfl (by first | omega | exact lt_of (by assumption) (by decide) | (simp; done) | (simp; omega) | decide | (simp at *; omega)) (by first | assumption | exact FormAt.nil (by assumption) | exact Strs.nil' (by assumption) | exact Nums.nil' (by assumption) | exact Raw.nil' (by assumption))) .free rfl ?_ | refine d_takeA 3 rfl (by kernel_rfl) rfl (.inr heldx) (y_indexAddr' rfl rfl _ rfl (by first | omega | exact lt_of (by assumption) (by decide) | (simp; done) | (simp; omega) | decide | (simp at *; omega)) (by first | rfl | assumption)) .free rfl ?_
        refine d_take 4 [15] rfl (by kernel_rfl) rfl heldx (y_load rfl (by first | exact loads_stillS (FormAt.st (by assumption) _ (by first | omega | decide | (simp; done) | exact lt_of (by assumption) (by decide))) (by rfl) | exact loads_stillS (by assumption) (by rfl) | exact loads_rd (reads_sub (by assumption) (by intro _ h; first | exact h | exact dr1 h | exact dr2 h | exact dr3 h | exact dr4 h | exact dr5 h | exact dr6 h)) (by rfl))) .free rfl ?_
        refine d_takeA 6 rfl (by kernel_rfl) rfl (.inr heldx) (y_move rfl) .free rfl ?_
        refine d_take 8 [15] rfl (by kernel_rfl) rfl heldx (y_load rfl (loads_ownS (by first | exact m0 | exact m1 | exact m2 | exact m3 | exact m4 | exact m5 | exact m6) (by rfl))) .free rfl ?_
        refine d_takeA 9 rfl (by kernel_rfl) rfl (.inr heldx) (y_move rfl) .free rfl ?_
        refine d_takeA 12 rfl (by kernel_rfl) rfl (.inr heldx) (y_move rfl) .free rfl ?_
        refine d_lits0 5 rfl (by kernel_rfl) rfl .free rfl (.inr heldx) ?_
        intro b55
        refine d_appendB 7 (B := some (b55, [])) (xs := []) (ys := bd.map sv) (m := 0) (c := 0) rfl (by kernel_rfl) rfl (by intro kk; simp) (by rfl) rfl rfl ⟨rfl, Nat.le_refl _, rfl⟩ (fun _ h => h) (by simp) hbd.reads hbd.none (sv_plain bd) (by decide) (by omega) (by decide) .free rfl (fun _ => .inr heldx) ?_
        intro B1 c1' hB1
        refine d_call 10 rfl (by kernel_rfl) rfl rfl .free rfl (g_l2Binds hf.rep hok0 hb _ (by rw [hki]; decide) _) ?_
        rintro _ J1 _ e1 ⟨o1, k1, rfl, hs1, rfl⟩
        have hbd1 := hbd.mono e1
        refine ⟨(.inr heldx), ?_⟩
        refine d_appendB 11 (B := B1) (xs := bd.map sv) (ys := (Ex.binds _ _).map sv) (m := 0 + bd.length) (c := c1') rfl (by kernel_rfl) rfl (by intro kk; simp) (by rfl) rfl rfl hB1 (fun _ h => h) (by simp) hs1.reads hs1.none (sv_plain _) (by decide) (Ex.binds_room1 (by omega)) (by decide) .free rfl (fun _ => .inr heldx) ?_
        intro B2 c2' hB2
        rw [← List.map_append] at hB2 ⊢
        refine d_freezeStrs (l := bd ++ Ex.binds _ _) hB2 (by simp) (by rw [List.length_append]; exact Ex.binds_room0 (by omega)) (hbd1.append hs1) ?_
        intro J3 o3 k3 ez hbv hs3
        refine d_put (t := 61) rfl hbv ?_
        have e4 := e1.trans ez
        have hf3 := hf.mono e4
        refine d_mem (fun w h => h.u1) ?_
        refine d_call 13 rfl (by kernel_rfl) rfl rfl .free rfl (ihn (by omega) (hf3.as 2 b.tree (by omega) rfl) hok.2 hs3 (Ex.binds_room (by omega)) _ _ _ (addAll_room (by omega)) hB _) ?_
        rintro _ J4 _ e5 ⟨B, c, rfl, hB, rfl⟩
        have e6 := e4.trans e5
        refine ⟨(.inr heldx), ?_⟩
        refine d_mem (fun w h => h.w1) ?_
        have hf := hf.mono e6
        have hbd := hbd.mono e6
        have hle := hle.trans e6
        refine d_takeA 14 rfl (by kernel_rfl) rfl (.inr heldx) (y_assign rfl) .free rfl ?_
        refine d_done (by kernel_rfl) ?_
        refine s_inBlock ?_
        refine o_enter rfl ?_
        refine o_move rfl .free rfl ?_
        refine o_arith rfl rfl rfl (by omega) .free rfl ?_
        refine o_assign rfl .free rfl ?_
        refine o_done ?_
        refine s_round ?_
        refine s_seq ?_
        refine s_seq ?_
        refine o_enter rfl ?_
        refine o_move rfl .free rfl ?_
        refine o_move rfl .free rfl ?_
        refine o_cmp rfl rfl rfl .free rfl ?_
        refine o_done ?_
        refine s_condF rfl (by first | rfl | decide | (simp; done) | omega) ?_
        refine s_exit rfl ?_
        refine s_seq ?_
        refine o_enter rfl ?_
        refine o_move rfl .free rfl ?_
        refine o_assign rfl .free rfl ?_
        refine o_done ?_
        refine s_ret (.tmp rfl .nil) ?_
        exact ⟨_, _, hle, fun w h => h.drop, B, c, by simp [Ex.occ, Ex.binds, addAll_append, retOne], by simpa [Ex.occ, Ex.binds, addAll_append] using hB, by simp [Ex.occ, Ex.binds, addAll_append]⟩
      · skip
        have hk : kidRange (Ex.ite a b d).tree.head = (1, 4) := rfl
        rw [hk]
        have hlen : (Ex.ite a b d).tree.parts.length = 4 := rfl
        have hki := kids_ite a b d
        simp only [Ex.ite.sizeOf_spec] at hlt
        simp only [Ex.size] at hbl hl
        simp only [Ex.ok, Bool.and_eq_true] at hok
        refine o_enter rfl ?_
        refine o_move rfl .free rfl ?_
        refine o_assign rfl .free rfl ?_
        refine o_done ?_
        refine s_block ?_
        refine s_loop ?_
        refine s_seq ?_
        refine s_seq ?_
        refine o_enter rfl ?_
        refine o_move rfl .free rfl ?_
        refine o_move rfl .free rfl ?_
        refine o_cmp rfl rfl rfl .free rfl ?_
        refine o_done ?_
        refine s_condT rfl (by first | rfl | decide | (simp; done) | omega) ?_
        refine s_skip ?_
        refine s_seq ?_
        refine s_block ?_
        refine d_x 15 rfl rfl ?_
        refine d_takeA 0 rfl (by kernel_rfl) rfl (.inr heldx) (y_fieldAddr rfl) .free rfl ?_
        refine d_take 1 [15] rfl (by kernel_rfl) rfl heldx (y_load rfl (loads_own1 (by first | exact m0 | exact m1 | exact m2 | exact m3 | exact m4 | exact m5 | exact m6) (by rfl) rfl)) .free rfl ?_
        refine d_takeA 2 rfl (by kernel_rfl) rfl (.inr heldx) (y_move rfl) .free rfl ?_
        first | refine d_takeA 3 rfl (by kernel_rfl) rfl (.inr heldx) (y_indexAddrD rfl rfl _ rfl (by first | omega | exact lt_of (by assumption) (by decide) | (simp; done) | (simp; omega) | decide | (simp at *; omega)) (by first | assumption | exact FormAt.nil (by assumption) | exact Strs.nil' (by assumption) | exact Nums.nil' (by assumption) | exact Raw.nil' (by assumption))) .free rfl ?_ | refine d_takeA 3 rfl (by kernel_rfl) rfl (.inr heldx) (y_indexAddr' rfl rfl _ rfl (by first | omega | exact lt_of (by assumption) (by decide) | (simp; done) | (simp; omega) | decide | (simp at *; omega)) (by first | rfl | assumption)) .free rfl ?_
        refine d_take 4 [15] rfl (by kernel_rfl) rfl heldx (y_load rfl (by first | exact loads_stillS (FormAt.st (by assumption) _ (by first | omega | decide | (simp; done) | exact lt_of (by assumption) (by decide))) (by rfl) | exact loads_stillS (by assumption) (by rfl) | exact loads_rd (reads_sub (by assumption) (by intro _ h; first | exact h | exact dr1 h | exact dr2 h | exact dr3 h | exact dr4 h | exact dr5 h | exact dr6 h)) (by rfl))) .free rfl ?_
        refine d_takeA 6 rfl (by kernel_rfl) rfl (.inr heldx) (y_move rfl) .free rfl ?_
        refine d_take 8 [15] rfl (by kernel_rfl) rfl heldx (y_load rfl (loads_ownS (by first | exact m0 | exact m1 | exact m2 | exact m3 | exact m4 | exact m5 | exact m6) (by rfl))) .free rfl ?_
        refine d_takeA 9 rfl (by kernel_rfl) rfl (.inr heldx) (y_move rfl) .free rfl ?_
        refine d_takeA 12 rfl (by kernel_rfl) rfl (.inr heldx) (y_move rfl) .free rfl ?_
        refine d_lits0 5 rfl (by kernel_rfl) rfl .free rfl (.inr heldx) ?_
        intro b55
        refine d_appendB 7 (B := some (b55, [])) (xs := []) (ys := bd.map sv) (m := 0) (c := 0) rfl (by kernel_rfl) rfl (by intro kk; simp) (by rfl) rfl rfl ⟨rfl, Nat.le_refl _, rfl⟩ (fun _ h => h) (by simp) hbd.reads hbd.none (sv_plain bd) (by decide) (by omega) (by decide) .free rfl (fun _ => .inr heldx) ?_
        intro B1 c1' hB1
        refine d_call 10 rfl (by kernel_rfl) rfl rfl .free rfl (g_l2Binds hf.rep hok0 hb _ (by rw [hki]; decide) _) ?_
        rintro _ J1 _ e1 ⟨o1, k1, rfl, hs1, rfl⟩
        have hbd1 := hbd.mono e1
        refine ⟨(.inr heldx), ?_⟩
        refine d_appendB 11 (B := B1) (xs := bd.map sv) (ys := (Ex.binds _ _).map sv) (m := 0 + bd.length) (c := c1') rfl (by kernel_rfl) rfl (by intro kk; simp) (by rfl) rfl rfl hB1 (fun _ h => h) (by simp) hs1.reads hs1.none (sv_plain _) (by decide) (Ex.binds_room1 (by omega)) (by decide) .free rfl (fun _ => .inr heldx) ?_
        intro B2 c2' hB2
        rw [← List.map_append] at hB2 ⊢
        refine d_freezeStrs (l := bd ++ Ex.binds _ _) hB2 (by simp) (by rw [List.length_append]; exact Ex.binds_room0 (by omega)) (hbd1.append hs1) ?_
        intro J3 o3 k3 ez hbv hs3
        refine d_put (t := 61) rfl hbv ?_
        have e4 := e1.trans ez
        have hf3 := hf.mono e4
        refine d_mem (fun w h => h.u1) ?_
        refine d_call 13 rfl (by kernel_rfl) rfl rfl .free rfl (ihn (by omega) (hf3.as 1 a.tree (by omega) rfl) hok.1.1 hs3 (Ex.binds_room (by omega)) _ _ _ (by omega) hB _) ?_
        rintro _ J4 _ e5 ⟨B, c, rfl, hB, rfl⟩
        have e6 := e4.trans e5
        refine ⟨(.inr heldx), ?_⟩
        refine d_mem (fun w h => h.w1) ?_
        have hf := hf.mono e6
        have hbd := hbd.mono e6
        have hle := hle.trans e6
        refine d_takeA 14 rfl (by kernel_rfl) rfl (.inr heldx) (y_assign rfl) .free rfl ?_
        refine d_done (by kernel_rfl) ?_
        refine s_inBlock ?_
        refine o_enter rfl ?_
        refine o_move rfl .free rfl ?_
        refine o_arith rfl rfl rfl (by omega) .free rfl ?_
        refine o_assign rfl .free rfl ?_
        refine o_done ?_
        refine s_round ?_
        refine s_seq ?_
        refine s_seq ?_
        refine o_enter rfl ?_
        refine o_move rfl .free rfl ?_
        refine o_move rfl .free rfl ?_
        refine o_cmp rfl rfl rfl .free rfl ?_
        refine o_done ?_
        refine s_condT rfl (by first | rfl | decide | (simp; done) | omega) ?_
        refine s_skip ?_
        refine s_seq ?_
        refine s_block ?_
        refine d_x 15 rfl rfl ?_
        refine d_takeA 0 rfl (by kernel_rfl) rfl (.inr heldx) (y_fieldAddr rfl) .free rfl ?_
        refine d_take 1 [15] rfl (by kernel_rfl) rfl heldx (y_load rfl (loads_own1 (by first | exact m0 | exact m1 | exact m2 | exact m3 | exact m4 | exact m5 | exact m6) (by rfl) rfl)) .free rfl ?_
        refine d_takeA 2 rfl (by kernel_rfl) rfl (.inr heldx) (y_move rfl) .free rfl ?_
        first | refine d_takeA 3 rfl (by kernel_rfl) rfl (.inr heldx) (y_indexAddrD rfl rfl _ rfl (by first | omega | exact lt_of (by assumption) (by decide) | (simp; done) | (simp; omega) | decide | (simp at *; omega)) (by first | assumption | exact FormAt.nil (by assumption) | exact Strs.nil' (by assumption) | exact Nums.nil' (by assumption) | exact Raw.nil' (by assumption))) .free rfl ?_ | refine d_takeA 3 rfl (by kernel_rfl) rfl (.inr heldx) (y_indexAddr' rfl rfl _ rfl (by first | omega | exact lt_of (by assumption) (by decide) | (simp; done) | (simp; omega) | decide | (simp at *; omega)) (by first | rfl | assumption)) .free rfl ?_
        refine d_take 4 [15] rfl (by kernel_rfl) rfl heldx (y_load rfl (by first | exact loads_stillS (FormAt.st (by assumption) _ (by first | omega | decide | (simp; done) | exact lt_of (by assumption) (by decide))) (by rfl) | exact loads_stillS (by assumption) (by rfl) | exact loads_rd (reads_sub (by assumption) (by intro _ h; first | exact h | exact dr1 h | exact dr2 h | exact dr3 h | exact dr4 h | exact dr5 h | exact dr6 h)) (by rfl))) .free rfl ?_
        refine d_takeA 6 rfl (by kernel_rfl) rfl (.inr heldx) (y_move rfl) .free rfl ?_
        refine d_take 8 [15] rfl (by kernel_rfl) rfl heldx (y_load rfl (loads_ownS (by first | exact m0 | exact m1 | exact m2 | exact m3 | exact m4 | exact m5 | exact m6) (by rfl))) .free rfl ?_
        refine d_takeA 9 rfl (by kernel_rfl) rfl (.inr heldx) (y_move rfl) .free rfl ?_
        refine d_takeA 12 rfl (by kernel_rfl) rfl (.inr heldx) (y_move rfl) .free rfl ?_
        refine d_lits0 5 rfl (by kernel_rfl) rfl .free rfl (.inr heldx) ?_
        intro b55
        refine d_appendB 7 (B := some (b55, [])) (xs := []) (ys := bd.map sv) (m := 0) (c := 0) rfl (by kernel_rfl) rfl (by intro kk; simp) (by rfl) rfl rfl ⟨rfl, Nat.le_refl _, rfl⟩ (fun _ h => h) (by simp) hbd.reads hbd.none (sv_plain bd) (by decide) (by omega) (by decide) .free rfl (fun _ => .inr heldx) ?_
        intro B1 c1' hB1
        refine d_call 10 rfl (by kernel_rfl) rfl rfl .free rfl (g_l2Binds hf.rep hok0 hb _ (by rw [hki]; decide) _) ?_
        rintro _ J1 _ e1 ⟨o1, k1, rfl, hs1, rfl⟩
        have hbd1 := hbd.mono e1
        refine ⟨(.inr heldx), ?_⟩
        refine d_appendB 11 (B := B1) (xs := bd.map sv) (ys := (Ex.binds _ _).map sv) (m := 0 + bd.length) (c := c1') rfl (by kernel_rfl) rfl (by intro kk; simp) (by rfl) rfl rfl hB1 (fun _ h => h) (by simp) hs1.reads hs1.none (sv_plain _) (by decide) (Ex.binds_room1 (by omega)) (by decide) .free rfl (fun _ => .inr heldx) ?_
        intro B2 c2' hB2
        rw [← List.map_append] at hB2 ⊢
        refine d_freezeStrs (l := bd ++ Ex.binds _ _) hB2 (by simp) (by rw [List.length_append]; exact Ex.binds_room0 (by omega)) (hbd1.append hs1) ?_
        intro J3 o3 k3 ez hbv hs3
        refine d_put (t := 61) rfl hbv ?_
        have e4 := e1.trans ez
        have hf3 := hf.mono e4
        refine d_mem (fun w h => h.u1) ?_
        refine d_call 13 rfl (by kernel_rfl) rfl rfl .free rfl (ihn (by omega) (hf3.as 2 b.tree (by omega) rfl) hok.1.2 hs3 (Ex.binds_room (by omega)) _ _ _ (addAll_room (by omega)) hB _) ?_
        rintro _ J4 _ e5 ⟨B, c, rfl, hB, rfl⟩
        have e6 := e4.trans e5
        refine ⟨(.inr heldx), ?_⟩
        refine d_mem (fun w h => h.w1) ?_
        have hf := hf.mono e6
        have hbd := hbd.mono e6
        have hle := hle.trans e6
        refine d_takeA 14 rfl (by kernel_rfl) rfl (.inr heldx) (y_assign rfl) .free rfl ?_
        refine d_done (by kernel_rfl) ?_
        refine s_inBlock ?_
        refine o_enter rfl ?_
        refine o_move rfl .free rfl ?_
        refine o_arith rfl rfl rfl (by omega) .free rfl ?_
        refine o_assign rfl .free rfl ?_
        refine o_done ?_
        refine s_round ?_
        refine s_seq ?_
        refine s_seq ?_
        refine o_enter rfl ?_
        refine o_move rfl .free rfl ?_
        refine o_move rfl .free rfl ?_
        refine o_cmp rfl rfl rfl .free rfl ?_
        refine o_done ?_
        refine s_condT rfl (by first | rfl | decide | (simp; done) | omega) ?_
        refine s_skip ?_
        refine s_seq ?_
        refine s_block ?_
        refine d_x 15 rfl rfl ?_
        refine d_takeA 0 rfl (by kernel_rfl) rfl (.inr heldx) (y_fieldAddr rfl) .free rfl ?_
        refine d_take 1 [15] rfl (by kernel_rfl) rfl heldx (y_load rfl (loads_own1 (by first | exact m0 | exact m1 | exact m2 | exact m3 | exact m4 | exact m5 | exact m6) (by rfl) rfl)) .free rfl ?_
        refine d_takeA 2 rfl (by kernel_rfl) rfl (.inr heldx) (y_move rfl) .free rfl ?_
        first | refine d_takeA 3 rfl (by kernel_rfl) rfl (.inr heldx) (y_indexAddrD rfl rfl _ rfl (by first | omega | exact lt_of (by assumption) (by decide) | (simp; done) | (simp; omega) | decide | (simp at *; omega)) (by first | assumption | exact FormAt.nil (by assumption) | exact Strs.nil' (by assumption) | exact Nums.nil' (by assumption) | exact Raw.nil' (by assumption))) .free rfl ?_ | refine d_takeA 3 rfl (by kernel_rfl) rfl (.inr heldx) (y_indexAddr' rfl rfl _ rfl (by first | omega | exact lt_of (by assumption) (by decide) | (simp; done) | (simp; omega) | decide | (simp at *; omega)) (by first | rfl | assumption)) .free rfl ?_
        refine d_take 4 [15] rfl (by kernel_rfl) rfl heldx (y_load rfl (by first | exact loads_stillS (FormAt.st (by assumption) _ (by first | omega | decide | (simp; done) | exact lt_of (by assumption) (by decide))) (by rfl) | exact loads_stillS (by assumption) (by rfl) | exact loads_rd (reads_sub (by assumption) (by intro _ h; first | exact h | exact dr1 h | exact dr2 h | exact dr3 h | exact dr4 h | exact dr5 h | exact dr6 h)) (by rfl))) .free rfl ?_
        refine d_takeA 6 rfl (by kernel_rfl) rfl (.inr heldx) (y_move rfl) .free rfl ?_
        refine d_take 8 [15] rfl (by kernel_rfl) rfl heldx (y_load rfl (loads_ownS (by first | exact m0 | exact m1 | exact m2 | exact m3 | exact m4 | exact m5 | exact m6) (by rfl))) .free rfl ?_
        refine d_takeA 9 rfl (by kernel_rfl) rfl (.inr heldx) (y_move rfl) .free rfl ?_
        refine d_takeA 12 rfl (by kernel_rfl) rfl (.inr heldx) (y_move rfl) .free rfl ?_
        refine d_lits0 5 rfl (by kernel_rfl) rfl .free rfl (.inr heldx) ?_
        intro b55
        refine d_appendB 7 (B := some (b55, [])) (xs := []) (ys := bd.map sv) (m := 0) (c := 0) rfl (by kernel_rfl) rfl (by intro kk; simp) (by rfl) rfl rfl ⟨rfl, Nat.le_refl _, rfl⟩ (fun _ h => h) (by simp) hbd.reads hbd.none (sv_plain bd) (by decide) (by omega) (by decide) .free rfl (fun _ => .inr heldx) ?_
        intro B1 c1' hB1
        refine d_call 10 rfl (by kernel_rfl) rfl rfl .free rfl (g_l2Binds hf.rep hok0 hb _ (by rw [hki]; decide) _) ?_
        rintro _ J1 _ e1 ⟨o1, k1, rfl, hs1, rfl⟩
        have hbd1 := hbd.mono e1
        refine ⟨(.inr heldx), ?_⟩
        refine d_appendB 11 (B := B1) (xs := bd.map sv) (ys := (Ex.binds _ _).map sv) (m := 0 + bd.length) (c := c1') rfl (by kernel_rfl) rfl (by intro kk; simp) (by rfl) rfl rfl hB1 (fun _ h => h) (by simp) hs1.reads hs1.none (sv_plain _) (by decide) (Ex.binds_room1 (by omega)) (by decide) .free rfl (fun _ => .inr heldx) ?_
        intro B2 c2' hB2
        rw [← List.map_append] at hB2 ⊢
        refine d_freezeStrs (l := bd ++ Ex.binds _ _) hB2 (by simp) (by rw [List.length_append]; exact Ex.binds_room0 (by omega)) (hbd1.append hs1) ?_
        intro J3 o3 k3 ez hbv hs3
        refine d_put (t := 61) rfl hbv ?_
        have e4 := e1.trans ez
        have hf3 := hf.mono e4
        refine d_mem (fun w h => h.u1) ?_
        refine d_call 13 rfl (by kernel_rfl) rfl rfl .free rfl (ihn (by omega) (hf3.as 3 d.tree (by omega) rfl) hok.2 hs3 (Ex.binds_room (by omega)) _ _ _ (addAll_room2 (by omega)) hB _) ?_
        rintro _ J4 _ e5 ⟨B, c, rfl, hB, rfl⟩
        have e6 := e4.trans e5
        refine ⟨(.inr heldx), ?_⟩
        refine d_mem (fun w h => h.w1) ?_
        have hf := hf.mono e6
        have hbd := hbd.mono e6
        have hle := hle.trans e6
        refine d_takeA 14 rfl (by kernel_rfl) rfl (.inr heldx) (y_assign rfl) .free rfl ?_
        refine d_done (by kernel_rfl) ?_
        refine s_inBlock ?_
        refine o_enter rfl ?_
        refine o_move rfl .free rfl ?_
        refine o_arith rfl rfl rfl (by omega) .free rfl ?_
        refine o_assign rfl .free rfl ?_
        refine o_done ?_
        refine s_round ?_
        refine s_seq ?_
        refine s_seq ?_
        refine o_enter rfl ?_
        refine o_move rfl .free rfl ?_
        refine o_move rfl .free rfl ?_
        refine o_cmp rfl rfl rfl .free rfl ?_
        refine o_done ?_
        refine s_condF rfl (by first | rfl | decide | (simp; done) | omega) ?_
        refine s_exit rfl ?_
        refine s_seq ?_
        refine o_enter rfl ?_
        refine o_move rfl .free rfl ?_
        refine o_assign rfl .free rfl ?_
        refine o_done ?_
        refine s_ret (.tmp rfl .nil) ?_
        exact ⟨_, _, hle, fun w h => h.drop, B, c, by simp [Ex.occ, Ex.binds, addAll_append, retOne], by simpa [Ex.occ, Ex.binds, addAll_append] using hB, by simp [Ex.occ, Ex.binds, addAll_append]⟩
      · skip
        have hk : kidRange (Ex.lt z a b).tree.head = (2, 4) := rfl
        rw [hk]
        have hlen : (Ex.lt z a b).tree.parts.length = 4 := rfl
        have hki := kids_lt' z a b
        simp only [Ex.lt.sizeOf_spec] at hlt
        simp only [Ex.size] at hbl hl
        simp only [Ex.ok, Bool.and_eq_true] at hok
        refine o_enter rfl ?_
        refine o_move rfl .free rfl ?_
        refine o_assign rfl .free rfl ?_
        refine o_done ?_
        refine s_block ?_
        refine s_loop ?_
        refine s_seq ?_
        refine s_seq ?_
        refine o_enter rfl ?_
        refine o_move rfl .free rfl ?_
        refine o_move rfl .free rfl ?_
        refine o_cmp rfl rfl rfl .free rfl ?_
        refine o_done ?_
        refine s_condT rfl (by first | rfl | decide | (simp; done) | omega) ?_
        refine s_skip ?_
        refine s_seq ?_
        refine s_block ?_
        refine d_x 15 rfl rfl ?_
        refine d_takeA 0 rfl (by kernel_rfl) rfl (.inr heldx) (y_fieldAddr rfl) .free rfl ?_
        refine d_take 1 [15] rfl (by kernel_rfl) rfl heldx (y_load rfl (loads_own1 (by first | exact m0 | exact m1 | exact m2 | exact m3 | exact m4 | exact m5 | exact m6) (by rfl) rfl)) .free rfl ?_
        refine d_takeA 2 rfl (by kernel_rfl) rfl (.inr heldx) (y_move rfl) .free rfl ?_
        first | refine d_takeA 3 rfl (by kernel_rfl) rfl (.inr heldx) (y_indexAddrD rfl rfl _ rfl (by first | omega | exact lt_of (by assumption) (by decide) | (simp; done) | (simp; omega) | decide | (simp at *; omega)) (by first | assumption | exact FormAt.nil (by assumption) | exact Strs.nil' (by assumption) | exact Nums.nil' (by assumption) | exact Raw.nil' (by assumption))) .free rfl ?_ | refine d_takeA 3 rfl (by kernel_rfl) rfl (.inr heldx) (y_indexAddr' rfl rfl _ rfl (by first | omega | exact lt_of (by assumption) (by decide) | (simp; done) | (simp; omega) | decide | (simp at *; omega)) (by first | rfl | assumption)) .free rfl ?_
        refine d_take 4 [15] rfl (by kernel_rfl) rfl heldx (y_load rfl (by first | exact loads_stillS (FormAt.st (by assumption) _ (by first | omega | decide | (simp; done) | exact lt_of (by assumption) (by decide))) (by rfl) | exact loads_stillS (by assumption) (by rfl) | exact loads_rd (reads_sub (by assumption) (by intro _ h; first | exact h | exact dr1 h | exact dr2 h | exact dr3 h | exact dr4 h | exact dr5 h | exact dr6 h)) (by rfl))) .free rfl ?_
        refine d_takeA 6 rfl (by kernel_rfl) rfl (.inr heldx) (y_move rfl) .free rfl ?_
        refine d_take 8 [15] rfl (by kernel_rfl) rfl heldx (y_load rfl (loads_ownS (by first | exact m0 | exact m1 | exact m2 | exact m3 | exact m4 | exact m5 | exact m6) (by rfl))) .free rfl ?_
        refine d_takeA 9 rfl (by kernel_rfl) rfl (.inr heldx) (y_move rfl) .free rfl ?_
        refine d_takeA 12 rfl (by kernel_rfl) rfl (.inr heldx) (y_move rfl) .free rfl ?_
        refine d_lits0 5 rfl (by kernel_rfl) rfl .free rfl (.inr heldx) ?_
        intro b55
        refine d_appendB 7 (B := some (b55, [])) (xs := []) (ys := bd.map sv) (m := 0) (c := 0) rfl (by kernel_rfl) rfl (by intro kk; simp) (by rfl) rfl rfl ⟨rfl, Nat.le_refl _, rfl⟩ (fun _ h => h) (by simp) hbd.reads hbd.none (sv_plain bd) (by decide) (by omega) (by decide) .free rfl (fun _ => .inr heldx) ?_
        intro B1 c1' hB1
        refine d_call 10 rfl (by kernel_rfl) rfl rfl .free rfl (g_l2Binds hf.rep hok0 hb _ (by rw [hki]; decide) _) ?_
        rintro _ J1 _ e1 ⟨o1, k1, rfl, hs1, rfl⟩
        have hbd1 := hbd.mono e1
        refine ⟨(.inr heldx), ?_⟩
        refine d_appendB 11 (B := B1) (xs := bd.map sv) (ys := (Ex.binds _ _).map sv) (m := 0 + bd.length) (c := c1') rfl (by kernel_rfl) rfl (by intro kk; simp) (by rfl) rfl rfl hB1 (fun _ h => h) (by simp) hs1.reads hs1.none (sv_plain _) (by decide) (Ex.binds_room1 (by omega)) (by decide) .free rfl (fun _ => .inr heldx) ?_
        intro B2 c2' hB2
        rw [← List.map_append] at hB2 ⊢
        refine d_freezeStrs (l := bd ++ Ex.binds _ _) hB2 (by simp) (by rw [List.length_append]; exact Ex.binds_room0 (by omega)) (hbd1.append hs1) ?_
        intro J3 o3 k3 ez hbv hs3
        refine d_put (t := 61) rfl hbv ?_
        have e4 := e1.trans ez
        have hf3 := hf.mono e4
        refine d_mem (fun w h => h.u1) ?_
        refine d_call 13 rfl (by kernel_rfl) rfl rfl .free rfl (ihn (by omega) (hf3.as 2 a.tree (by omega) rfl) hok.1.2 hs3 (Ex.binds_room (by omega)) _ _ _ (by omega) hB _) ?_
        rintro _ J4 _ e5 ⟨B, c, rfl, hB, rfl⟩
        have e6 := e4.trans e5
        refine ⟨(.inr heldx), ?_⟩
        refine d_mem (fun w h => h.w1) ?_
        have hf := hf.mono e6
        have hbd := hbd.mono e6
        have hle := hle.trans e6
        refine d_takeA 14 rfl (by kernel_rfl) rfl (.inr heldx) (y_assign rfl) .free rfl ?_
        refine d_done (by kernel_rfl) ?_
        refine s_inBlock ?_
        refine o_enter rfl ?_
        refine o_move rfl .free rfl ?_
        refine o_arith rfl rfl rfl (by omega) .free rfl ?_
        refine o_assign rfl .free rfl ?_
        refine o_done ?_
        refine s_round ?_
        refine s_seq ?_
        refine s_seq ?_
        refine o_enter rfl ?_
        refine o_move rfl .free rfl ?_
        refine o_move rfl .free rfl ?_
        refine o_cmp rfl rfl rfl .free rfl ?_
        refine o_done ?_
        refine s_condT rfl (by first | rfl | decide | (simp; done) | omega) ?_
        refine s_skip ?_
        refine s_seq ?_
        refine s_block ?_
        refine d_x 15 rfl rfl ?_
        refine d_takeA 0 rfl (by kernel_rfl) rfl (.inr heldx) (y_fieldAddr rfl) .free rfl ?_
        refine d_take 1 [15] rfl (by kernel_rfl) rfl heldx (y_load rfl (loads_own1 (by first | exact m0 | exact m1 | exact m2 | exact m3 | exact m4 | exact m5 | exact m6) (by rfl) rfl)) .free rfl ?_
        refine d_takeA 2 rfl (by kernel_rfl) rfl (.inr heldx) (y_move rfl) .free rfl ?_
        first | refine d_takeA 3 rfl (by kernel_rfl) rfl (.inr heldx) (y_indexAddrD rfl rfl _ rfl (by first | omega | exact lt_of (by assumption) (by decide) | (simp; done) | (simp; omega) | decide | (simp at *; omega)) (by first | assumption | exact FormAt.nil (by assumption) | exact Strs.nil' (by assumption) | exact Nums.nil' (by assumption) | exact Raw.nil' (by assumption))) .free rfl ?_ | refine d_takeA 3 rfl (by kernel_rfl) rfl (.inr heldx) (y_indexAddr' rfl rfl _ rfl (by first | omega | exact lt_of (by assumption) (by decide) | (simp; done) | (simp; omega) | decide | (simp at *; omega)) (by first | rfl | assumption)) .free rfl ?_
        refine d_take 4 [15] rfl (by kernel_rfl) rfl heldx (y_load rfl (by first | exact loads_stillS (FormAt.st (by assumption) _ (by first | omega | decide | (simp; done) | exact lt_of (by assumption) (by decide))) (by rfl) | exact loads_stillS (by assumption) (by rfl) | exact loads_rd (reads_sub (by assumption) (by intro _ h; first | exact h | exact dr1 h | exact dr2 h | exact dr3 h | exact dr4 h | exact dr5 h | exact dr6 h)) (by rfl))) .free rfl ?_
        refine d_takeA 6 rfl (by kernel_rfl) rfl (.inr heldx) (y_move rfl) .free rfl ?_
        refine d_take 8 [15] rfl (by kernel_rfl) rfl heldx (y_load rfl (loads_ownS (by first | exact m0 | exact m1 | exact m2 | exact m3 | exact m4 | exact m5 | exact m6) (by rfl))) .free rfl ?_
        refine d_takeA 9 rfl (by kernel_rfl) rfl (.inr heldx) (y_move rfl) .free rfl ?_
        refine d_takeA 12 rfl (by kernel_rfl) rfl (.inr heldx) (y_move rfl) .free rfl ?_
        refine d_lits0 5 rfl (by kernel_rfl) rfl .free rfl (.inr heldx) ?_
        intro b55
        refine d_appendB 7 (B := some (b55, [])) (xs := []) (ys := bd.map sv) (m := 0) (c := 0) rfl (by kernel_rfl) rfl (by intro kk; simp) (by rfl) rfl rfl ⟨rfl, Nat.le_refl _, rfl⟩ (fun _ h => h) (by simp) hbd.reads hbd.none (sv_plain bd) (by decide) (by omega) (by decide) .free rfl (fun _ => .inr heldx) ?_
        intro B1 c1' hB1
        refine d_call 10 rfl (by kernel_rfl) rfl rfl .free rfl (g_l2Binds hf.rep hok0 hb _ (by rw [hki]; decide) _) ?_
        rintro _ J1 _ e1 ⟨o1, k1, rfl, hs1, rfl⟩
        have hbd1 := hbd.mono e1
        refine ⟨(.inr heldx), ?_⟩
        refine d_appendB 11 (B := B1) (xs := bd.map sv) (ys := (Ex.binds _ _).map sv) (m := 0 + bd.length) (c := c1') rfl (by kernel_rfl) rfl (by intro kk; simp) (by rfl) rfl rfl hB1 (fun _ h => h) (by simp) hs1.reads hs1.none (sv_plain _) (by decide) (Ex.binds_room1 (by omega)) (by decide) .free rfl (fun _ => .inr heldx) ?_
        intro B2 c2' hB2
        rw [← List.map_append] at hB2 ⊢
        refine d_freezeStrs (l := bd ++ Ex.binds _ _) hB2 (by simp) (by rw [List.length_append]; exact Ex.binds_room0 (by omega)) (hbd1.append hs1) ?_
        intro J3 o3 k3 ez hbv hs3
        refine d_put (t := 61) rfl hbv ?_
        have e4 := e1.trans ez
        have hf3 := hf.mono e4
        refine d_mem (fun w h => h.u1) ?_
        refine d_call 13 rfl (by kernel_rfl) rfl rfl .free rfl (ihn (by omega) (hf3.as 3 b.tree (by omega) rfl) hok.2 hs3 (Ex.binds_room (by omega)) _ _ _ (addAll_room (by omega)) hB _) ?_
        rintro _ J4 _ e5 ⟨B, c, rfl, hB, rfl⟩
        have e6 := e4.trans e5
        refine ⟨(.inr heldx), ?_⟩
        refine d_mem (fun w h => h.w1) ?_
        have hf := hf.mono e6
        have hbd := hbd.mono e6
        have hle := hle.trans e6
        refine d_takeA 14 rfl (by kernel_rfl) rfl (.inr heldx) (y_assign rfl) .free rfl ?_
        refine d_done (by kernel_rfl) ?_
        refine s_inBlock ?_
        refine o_enter rfl ?_
        refine o_move rfl .free rfl ?_
        refine o_arith rfl rfl rfl (by omega) .free rfl ?_
        refine o_assign rfl .free rfl ?_
        refine o_done ?_
        refine s_round ?_
        refine s_seq ?_
        refine s_seq ?_
        refine o_enter rfl ?_
        refine o_move rfl .free rfl ?_
        refine o_move rfl .free rfl ?_
        refine o_cmp rfl rfl rfl .free rfl ?_
        refine o_done ?_
        refine s_condF rfl (by first | rfl | decide | (simp; done) | omega) ?_
        refine s_exit rfl ?_
        refine s_seq ?_
        refine o_enter rfl ?_
        refine o_move rfl .free rfl ?_
        refine o_assign rfl .free rfl ?_
        refine o_done ?_
        refine s_ret (.tmp rfl .nil) ?_
        exact ⟨_, _, hle, fun w h => h.drop, B, c, by simp [Ex.occ, Ex.binds, addAll_append, retOne], by simpa [Ex.occ, Ex.binds, addAll_append] using hB, by simp [Ex.occ, Ex.binds, addAll_append]⟩
      · skip
        have hk : kidRange (Ex.fn g z s t b).tree.head = (5, 6) := rfl
        rw [hk]
        have hlen : (Ex.fn g z s t b).tree.parts.length = 6 := rfl
        have hki := kids_fn g z s t b
        simp only [Ex.fn.sizeOf_spec] at hlt
        simp only [Ex.size] at hbl hl
        simp only [Ex.ok, Bool.and_eq_true] at hok
        refine o_enter rfl ?_
        refine o_move rfl .free rfl ?_
        refine o_assign rfl .free rfl ?_
        refine o_done ?_
        refine s_block ?_
        refine s_loop ?_
        refine s_seq ?_
        refine s_seq ?_
        refine o_enter rfl ?_
        refine o_move rfl .free rfl ?_
        refine o_move rfl .free rfl ?_
        refine o_cmp rfl rfl rfl .free rfl ?_
        refine o_done ?_
        refine s_condT rfl (by first | rfl | decide | (simp; done) | omega) ?_
        refine s_skip ?_
        refine s_seq ?_
        refine s_block ?_
        refine d_x 15 rfl rfl ?_
        refine d_takeA 0 rfl (by kernel_rfl) rfl (.inr heldx) (y_fieldAddr rfl) .free rfl ?_
        refine d_take 1 [15] rfl (by kernel_rfl) rfl heldx (y_load rfl (loads_own1 (by first | exact m0 | exact m1 | exact m2 | exact m3 | exact m4 | exact m5 | exact m6) (by rfl) rfl)) .free rfl ?_
        refine d_takeA 2 rfl (by kernel_rfl) rfl (.inr heldx) (y_move rfl) .free rfl ?_
        first | refine d_takeA 3 rfl (by kernel_rfl) rfl (.inr heldx) (y_indexAddrD rfl rfl _ rfl (by first | omega | exact lt_of (by assumption) (by decide) | (simp; done) | (simp; omega) | decide | (simp at *; omega)) (by first | assumption | exact FormAt.nil (by assumption) | exact Strs.nil' (by assumption) | exact Nums.nil' (by assumption) | exact Raw.nil' (by assumption))) .free rfl ?_ | refine d_takeA 3 rfl (by kernel_rfl) rfl (.inr heldx) (y_indexAddr' rfl rfl _ rfl (by first | omega | exact lt_of (by assumption) (by decide) | (simp; done) | (simp; omega) | decide | (simp at *; omega)) (by first | rfl | assumption)) .free rfl ?_
        refine d_take 4 [15] rfl (by kernel_rfl) rfl heldx (y_load rfl (by first | exact loads_stillS (FormAt.st (by assumption) _ (by first | omega | decide | (simp; done) | exact lt_of (by assumption) (by decide))) (by rfl) | exact loads_stillS (by assumption) (by rfl) | exact loads_rd (reads_sub (by assumption) (by intro _ h; first | exact h | exact dr1 h | exact dr2 h | exact dr3 h | exact dr4 h | exact dr5 h | exact dr6 h)) (by rfl))) .free rfl ?_
        refine d_takeA 6 rfl (by kernel_rfl) rfl (.inr heldx) (y_move rfl) .free rfl ?_
        refine d_take 8 [15] rfl (by kernel_rfl) rfl heldx (y_load rfl (loads_ownS (by first | exact m0 | exact m1 | exact m2 | exact m3 | exact m4 | exact m5 | exact m6) (by rfl))) .free rfl ?_
        refine d_takeA 9 rfl (by kernel_rfl) rfl (.inr heldx) (y_move rfl) .free rfl ?_
        refine d_takeA 12 rfl (by kernel_rfl) rfl (.inr heldx) (y_move rfl) .free rfl ?_
        refine d_lits0 5 rfl (by kernel_rfl) rfl .free rfl (.inr heldx) ?_
        intro b55
        refine d_appendB 7 (B := some (b55, [])) (xs := []) (ys := bd.map sv) (m := 0) (c := 0) rfl (by kernel_rfl) rfl (by intro kk; simp) (by rfl) rfl rfl ⟨rfl, Nat.le_refl _, rfl⟩ (fun _ h => h) (by simp) hbd.reads hbd.none (sv_plain bd) (by decide) (by omega) (by decide) .free rfl (fun _ => .inr heldx) ?_
        intro B1 c1' hB1
        refine d_call 10 rfl (by kernel_rfl) rfl rfl .free rfl (g_l2Binds hf.rep hok0 hb _ (by rw [hki]; decide) _) ?_
        rintro _ J1 _ e1 ⟨o1, k1, rfl, hs1, rfl⟩
        have hbd1 := hbd.mono e1
        refine ⟨(.inr heldx), ?_⟩
        refine d_appendB 11 (B := B1) (xs := bd.map sv) (ys := (Ex.binds _ _).map sv) (m := 0 + bd.length) (c := c1') rfl (by kernel_rfl) rfl (by intro kk; simp) (by rfl) rfl rfl hB1 (fun _ h => h) (by simp) hs1.reads hs1.none (sv_plain _) (by decide) (Ex.binds_room1 (by omega)) (by decide) .free rfl (fun _ => .inr heldx) ?_
        intro B2 c2' hB2
        rw [← List.map_append] at hB2 ⊢
        refine d_freezeStrs (l := bd ++ Ex.binds _ _) hB2 (by simp) (by rw [List.length_append]; exact Ex.binds_room0 (by omega)) (hbd1.append hs1) ?_
        intro J3 o3 k3 ez hbv hs3
        refine d_put (t := 61) rfl hbv ?_
        have e4 := e1.trans ez
        have hf3 := hf.mono e4
        refine d_mem (fun w h => h.u1) ?_
        refine d_call 13 rfl (by kernel_rfl) rfl rfl .free rfl (ihn (by omega) (hf3.as 5 b.tree (by omega) rfl) hok.2 hs3 (Ex.binds_room (by omega)) _ _ _ (by omega) hB _) ?_
        rintro _ J4 _ e5 ⟨B, c, rfl, hB, rfl⟩
        have e6 := e4.trans e5
        refine ⟨(.inr heldx), ?_⟩
        refine d_mem (fun w h => h.w1) ?_
        have hf := hf.mono e6
        have hbd := hbd.mono e6
        have hle := hle.trans e6
        refine d_takeA 14 rfl (by kernel_rfl) rfl (.inr heldx) (y_assign rfl) .free rfl ?_
        refine d_done (by kernel_rfl) ?_
        refine s_inBlock ?_
        refine o_enter rfl ?_
        refine o_move rfl .free rfl ?_
        refine o_arith rfl rfl rfl (by omega) .free rfl ?_
        refine o_assign rfl .free rfl ?_
        refine o_done ?_
        refine s_round ?_
        refine s_seq ?_
        refine s_seq ?_
        refine o_enter rfl ?_
        refine o_move rfl .free rfl ?_
        refine o_move rfl .free rfl ?_
        refine o_cmp rfl rfl rfl .free rfl ?_
        refine o_done ?_
        refine s_condF rfl (by first | rfl | decide | (simp; done) | omega) ?_
        refine s_exit rfl ?_
        refine s_seq ?_
        refine o_enter rfl ?_
        refine o_move rfl .free rfl ?_
        refine o_assign rfl .free rfl ?_
        refine o_done ?_
        refine s_ret (.tmp rfl .nil) ?_
        exact ⟨_, _, hle, fun w h => h.drop, B, c, by simp [Ex.occ, Ex.binds, addAll_append, retOne], by simpa [Ex.occ, Ex.binds, addAll_append] using hB, by simp [Ex.occ, Ex.binds, addAll_append]⟩
      · skip
        have hk : kidRange (Ex.un o a).tree.head = (1, 2) := by cases o <;> rfl
        rw [hk]
        have hlen : (Ex.un o a).tree.parts.length = 2 := rfl
        have hki := kids_un o a
        simp only [Ex.un.sizeOf_spec] at hlt
        simp only [Ex.size] at hbl hl
        simp only [Ex.ok] at hok
        refine o_enter rfl ?_
        refine o_move rfl .free rfl ?_
        refine o_assign rfl .free rfl ?_
        refine o_done ?_
        refine s_block ?_
        refine s_loop ?_
        refine s_seq ?_
        refine s_seq ?_
        refine o_enter rfl ?_
        refine o_move rfl .free rfl ?_
        refine o_move rfl .free rfl ?_
        refine o_cmp rfl rfl rfl .free rfl ?_
        refine o_done ?_
        refine s_condT rfl (by first | rfl | decide | (simp; done) | omega) ?_
        refine s_skip ?_
        refine s_seq ?_
        refine s_block ?_
        refine d_x 15 rfl rfl ?_
        refine d_takeA 0 rfl (by kernel_rfl) rfl (.inr heldx) (y_fieldAddr rfl) .free rfl ?_
        refine d_take 1 [15] rfl (by kernel_rfl) rfl heldx (y_load rfl (loads_own1 (by first | exact m0 | exact m1 | exact m2 | exact m3 | exact m4 | exact m5 | exact m6) (by rfl) rfl)) .free rfl ?_
        refine d_takeA 2 rfl (by kernel_rfl) rfl (.inr heldx) (y_move rfl) .free rfl ?_
        first | refine d_takeA 3 rfl (by kernel_rfl) rfl (.inr heldx) (y_indexAddrD rfl rfl _ rfl (by first | omega | exact lt_of (by assumption) (by decide) | (simp; done) | (simp; omega) | decide | (simp at *; omega)) (by first | assumption | exact FormAt.nil (by assumption) | exact Strs.nil' (by assumption) | exact Nums.nil' (by assumption) | exact Raw.nil' (by assumption))) .free rfl ?_ | refine d_takeA 3 rfl (by kernel_rfl) rfl (.inr heldx) (y_indexAddr' rfl rfl _ rfl (by first | omega | exact lt_of (by assumption) (by decide) | (simp; done) | (simp; omega) | decide | (simp at *; omega)) (by first | rfl | assumption)) .free rfl ?_
        refine d_take 4 [15] rfl (by kernel_rfl) rfl heldx (y_load rfl (by first | exact loads_stillS (FormAt.st (by assumption) _ (by first | omega | decide | (simp; done) | exact lt_of (by assumption) (by decide))) (by rfl) | exact loads_stillS (by assumption) (by rfl) | exact loads_rd (reads_sub (by assumption) (by intro _ h; first | exact h | exact dr1 h | exact dr2 h | exact dr3 h | exact dr4 h | exact dr5 h | exact dr6 h)) (by rfl))) .free rfl ?_
        refine d_takeA 6 rfl (by kernel_rfl) rfl (.inr heldx) (y_move rfl) .free rfl ?_
        refine d_take 8 [15] rfl (by kernel_rfl) rfl heldx (y_load rfl (loads_ownS (by first | exact m0 | exact m1 | exact m2 | exact m3 | exact m4 | exact m5 | exact m6) (by rfl))) .free rfl ?_
        refine d_takeA 9 rfl (by kernel_rfl) rfl (.inr heldx) (y_move rfl) .free rfl ?_
        refine d_takeA 12 rfl (by kernel_rfl) rfl (.inr heldx) (y_move rfl) .free rfl ?_
        refine d_lits0 5 rfl (by kernel_rfl) rfl .free rfl (.inr heldx) ?_
        intro b55
        refine d_appendB 7 (B := some (b55, [])) (xs := []) (ys := bd.map sv) (m := 0) (c := 0) rfl (by kernel_rfl) rfl (by intro kk; simp) (by rfl) rfl rfl ⟨rfl, Nat.le_refl _, rfl⟩ (fun _ h => h) (by simp) hbd.reads hbd.none (sv_plain bd) (by decide) (by omega) (by decide) .free rfl (fun _ => .inr heldx) ?_
        intro B1 c1' hB1
        refine d_call 10 rfl (by kernel_rfl) rfl rfl .free rfl (g_l2Binds hf.rep hok0 hb _ (by rw [hki]; decide) _) ?_
        rintro _ J1 _ e1 ⟨o1, k1, rfl, hs1, rfl⟩
        have hbd1 := hbd.mono e1
        refine ⟨(.inr heldx), ?_⟩
        refine d_appendB 11 (B := B1) (xs := bd.map sv) (ys := (Ex.binds _ _).map sv) (m := 0 + bd.length) (c := c1') rfl (by kernel_rfl) rfl (by intro kk; simp) (by rfl) rfl rfl hB1 (fun _ h => h) (by simp) hs1.reads hs1.none (sv_plain _) (by decide) (Ex.binds_room1 (by omega)) (by decide) .free rfl (fun _ => .inr heldx) ?_
        intro B2 c2' hB2
        rw [← List.map_append] at hB2 ⊢
        refine d_freezeStrs (l := bd ++ Ex.binds _ _) hB2 (by simp) (by rw [List.length_append]; exact Ex.binds_room0 (by omega)) (hbd1.append hs1) ?_
        intro J3 o3 k3 ez hbv hs3
        refine d_put (t := 61) rfl hbv ?_
        have e4 := e1.trans ez
        have hf3 := hf.mono e4
        refine d_mem (fun w h => h.u1) ?_
        refine d_call 13 rfl (by kernel_rfl) rfl rfl .free rfl (ihn (by omega) (hf3.as 1 a.tree (by omega) rfl) hok hs3 (Ex.binds_room (by omega)) _ _ _ (by omega) hB _) ?_
        rintro _ J4 _ e5 ⟨B, c, rfl, hB, rfl⟩
        have e6 := e4.trans e5
        refine ⟨(.inr heldx), ?_⟩
        refine d_mem (fun w h => h.w1) ?_
        have hf := hf.mono e6
        have hbd := hbd.mono e6
        have hle := hle.trans e6
        refine d_takeA 14 rfl (by kernel_rfl) rfl (.inr heldx) (y_assign rfl) .free rfl ?_
        refine d_done (by kernel_rfl) ?_
        refine s_inBlock ?_
        refine o_enter rfl ?_
        refine o_move rfl .free rfl ?_
        refine o_arith rfl rfl rfl (by omega) .free rfl ?_
        refine o_assign rfl .free rfl ?_
        refine o_done ?_
        refine s_round ?_
        refine s_seq ?_
        refine s_seq ?_
        refine o_enter rfl ?_
        refine o_move rfl .free rfl ?_
        refine o_move rfl .free rfl ?_
        refine o_cmp rfl rfl rfl .free rfl ?_
        refine o_done ?_
        refine s_condF rfl (by first | rfl | decide | (simp; done) | omega) ?_
        refine s_exit rfl ?_
        refine s_seq ?_
        refine o_enter rfl ?_
        refine o_move rfl .free rfl ?_
        refine o_assign rfl .free rfl ?_
        refine o_done ?_
        refine s_ret (.tmp rfl .nil) ?_
        exact ⟨_, _, hle, fun w h => h.drop, B, c, by simp [Ex.occ, Ex.binds, addAll_append, retOne], by simpa [Ex.occ, Ex.binds, addAll_append] using hB, by simp [Ex.occ, Ex.binds, addAll_append]⟩

def freeOf (s : Txt) : Option (List Txt) := (exOf s).map Ex.free
/-- A closed expression. -/
def closedOf (s : Txt) : Option Ex := match exOf s with
  | some e => if e.closed = true then some e else none
  | none => none
def EF (o : Option (List Txt)) (L : Own) : Post := fun v I' L' => ∃ oa c, v = .tuple #[.slice oa (o.getD []).length c, .bool o.isSome] ∧ Strs I' oa (o.getD []) c ∧ L = L'
theorem fine_size {e : Ex} (h : e.fine = true) : e.size ≤ 120 := by
  simp only [Ex.fine, Bool.and_eq_true, decide_eq_true_eq] at h; exact h.1.2
theorem exOf_size {s : Txt} {e : Ex} (h : exOf s = some e) : e.size ≤ 120 := fine_size (exOf_some h).2.1
theorem g_ExprFree (s : Txt) (hs : s.length ≤ maxL) (I : Heap) (L : Own) : Fun Try.prog 22 [.string (str s)] I L (EF (freeOf s) L) := by
  refine fun_intro (by simp) ?_
  refine s_seq ?_
  refine o_enter rfl ?_
  refine o_assign rfl .free rfl ?_
  refine o_assign rfl .free rfl ?_
  refine o_done ?_
  refine s_seq ?_
  refine o_enter rfl ?_
  refine o_move rfl .free rfl ?_
  refine o_call rfl .free rfl (g_l2Parse' s hs _ _) ?_
  rintro _ J _ hleJ ⟨t, cs, ok, rfl, hrep, rfl, hpf⟩
  obtain ⟨oa, cc, vs, rfl, -⟩ := hrep.open
  refine o_move rfl .free rfl ?_
  refine o_extract rfl rfl .free rfl ?_
  refine o_extract rfl rfl .free rfl ?_
  refine o_alloc .free rfl ?_
  intro b4
  refine o_store rfl rfl rfl rfl (by first | rfl | (simp only [List.toList_toArray, List.all_cons, List.all_nil, plainCell_buf, Bool.and_true, Bool.true_and] <;> rfl)) (by first | exact u0 | exact u1 | exact u2 | exact u3 | exact u4 | exact u5 | exact u6) (by rfl) .free ?_
  refine o_assign rfl .free rfl ?_
  refine o_done ?_
  refine s_seq ?_
  refine s_seq ?_
  refine o_enter rfl ?_
  refine o_move rfl .free rfl ?_
  refine o_not rfl .free rfl ?_
  refine o_done ?_
  refine s_cond rfl ?_ ?_
  · intro c0
    try simp only [Bool.and_eq_true, Bool.or_eq_true, Bool.not_eq_true', Bool.not_eq_false', Bool.and_eq_false_iff, Bool.or_eq_false_iff, decide_eq_true_eq, decide_eq_false_iff_not] at c0
    refine s_seq ?_
    refine o_enter rfl ?_
    refine o_lits0 .free rfl ?_
    intro b13
    refine o_assign rfl .free rfl ?_
    refine o_assign rfl .free rfl ?_
    refine o_done ?_
    refine s_ret (.tmp rfl (.tmp rfl .nil)) ?_
    exact ⟨J, L, hleJ, fun w h => h.drop.drop, some ⟨b13, 0, none⟩, 0, by rw [freeOf, RX_none hpf c0]; rfl, by rw [freeOf, RX_none hpf c0]; exact strs_empty _ _, rfl⟩
  · intro c0
    try simp only [Bool.and_eq_true, Bool.or_eq_true, Bool.not_eq_true', Bool.not_eq_false', Bool.and_eq_false_iff, Bool.or_eq_false_iff, decide_eq_true_eq, decide_eq_false_iff_not] at c0
    obtain ⟨e, he, rfl, hok, -⟩ := RX_some hpf c0
    have hez := exOf_size he
    refine s_skip ?_
    refine s_seq ?_
    refine o_enter rfl ?_
    refine o_load rfl (loads_ownS (by first | exact m0 | exact m1 | exact m2 | exact m3 | exact m4 | exact m5 | exact m6) (by rfl)) .free rfl ?_
    refine o_lits0 .free rfl ?_
    intro b15
    refine o_lits0 .free rfl ?_
    intro b16
    refine o_mem (L' := bufOwn 9 (([] : List Txt).map sv) (some (b16, [])) ++ _) (fun w h => h) ?_
    refine o_call rfl .free rfl (g_l2Free _ (Nat.lt_succ_self _) hrep hok (strs_empty _ _) (by unfold maxN; simp; omega) [] (some (b16, [])) 0 (by simp; omega) ⟨rfl, Nat.le_refl _, rfl⟩ _) ?_
    rintro _ J2 _ e2 ⟨B, c, rfl, hB, rfl⟩
    refine o_assign rfl .free rfl ?_
    refine o_assign rfl .free rfl ?_
    refine o_done ?_
    have hll := addAll_len [] (e.occ [])
    have hol := e.occ_len []
    simp only [List.length_nil, Nat.zero_add] at hll
    have hnm : ∀ z ∈ addAll [] (e.occ []), isName z = true := fun z hz => Ex.occ_name hok z (by simpa [addAll_mem] using hz)
    refine s_freezeStrs hB rfl (by unfold maxN; omega) (names_strs hnm) ?_
    intro J3 oz cz ez hbv hst
    refine s_put (t := 2) rfl hbv ?_
    refine s_ret (.tmp rfl (.tmp rfl .nil)) ?_
    exact ⟨J3, L, (hleJ.trans e2).trans ez, (by intro _ h; first | exact h | exact dr1 h | exact dr2 h | exact dr3 h | exact dr4 h | exact dr5 h | exact dr6 h), oz, cz, by rw [freeOf, he]; rfl, by rw [freeOf, he]; exact hst, rfl⟩

theorem closedOf_free (s : Txt) : (closedOf s).isSome = ((freeOf s).isSome && decide ((freeOf s).getD [] = [])) := by
  unfold closedOf freeOf
  cases exOf s with
  | none => rfl
  | some e =>
    simp only [Option.map_some, Option.isSome_some, Option.getD_some, Bool.true_and]
    rw [← Ex.closed_free]
    cases e.closed <;> rfl
theorem closedOf_some {s : Txt} {e : Ex} (h : closedOf s = some e) : exOf s = some e ∧ e.closed = true := by
  unfold closedOf at h
  cases hx : exOf s with
  | none => rw [hx] at h; cases h
  | some e' =>
    rw [hx] at h
    simp only at h
    split at h
    · rename_i hc; cases h; exact ⟨rfl, hc⟩
    · cases h
theorem g_ExprClosed (s : Txt) (hs : s.length ≤ maxL) (I : Heap) (L : Own) : Fun Try.prog 8 [.string (str s)] I L (Only (.bool (closedOf s).isSome) I L) := by
  refine fun_intro (by simp) ?_
  refine s_seq ?_
  refine o_enter rfl ?_
  refine o_assign rfl .free rfl ?_
  refine o_done ?_
  refine s_seq ?_
  refine o_enter rfl ?_
  refine o_move rfl .free rfl ?_
  refine o_call rfl .free rfl (g_ExprFree s hs _ _) ?_
  rintro _ J _ hleJ ⟨oa, c, rfl, hst, rfl⟩
  refine o_move rfl .free rfl ?_
  refine o_extract rfl rfl .free rfl ?_
  refine o_extract rfl rfl .free rfl ?_
  refine o_assign rfl .free rfl ?_
  refine o_assign rfl .free rfl ?_
  refine o_done ?_
  refine s_seq ?_
  refine o_enter rfl ?_
  refine o_move rfl .free rfl ?_
  refine o_move rfl .free rfl ?_
  apply o_and 11 15 rfl
  · intro g2_2 hk
    try simp only [Bool.and_eq_true, Bool.or_eq_true, Bool.not_eq_true', Bool.not_eq_false', Bool.and_eq_false_iff, Bool.or_eq_false_iff, decide_eq_true_eq, decide_eq_false_iff_not] at g2_2
    refine o_move rfl (.met rfl rfl) rfl ?_
    refine o_len_slice rfl (.met rfl rfl) rfl ?_
    refine o_cmp rfl rfl rfl (.met rfl rfl) rfl ?_
    refine o_pick_true rfl rfl .free rfl ?_
    exact o_fin 3 rfl rfl hk
  · intro _ hk
    refine o_skips 3 rfl ?_
    refine o_pick_false rfl rfl .free rfl ?_
    exact o_fin 3 rfl rfl hk
  refine o_assign rfl .free rfl ?_
  refine o_done ?_
  refine s_ret (.tmp rfl .nil) ?_
  refine done_fgt hleJ (by intro _ h; first | exact h | exact dr1 h | exact dr2 h | exact dr3 h | exact dr4 h | exact dr5 h | exact dr6 h) ?_
  rw [closedOf_free]
  refine congrArg Value.bool ?_
  rw [Bool.eq_iff_iff]; simp
theorem f_free_rx {I : Heap} {s : Txt} {t : Tree} {cs : List Value} {ok : Bool} (h : Rep I t cs) (hpf : match exOf s with | some e => ok = true ∧ t = e.tree | none => ok = false) (hok : ok = true) (L : Own) :
    Fun Try.prog 27 [.agg cs.toArray] I L (SS ((freeOf s).getD []) L) := by
  obtain ⟨e, he, rfl, h1, _⟩ := RX_some hpf hok
  have hez := exOf_size he
  rw [freeOf, he]; exact f_form_freeNames h h1 (by omega) L
theorem f_readClosed (s : Txt) (hs : s.length ≤ maxN) (I : Heap) (L : Own) : Fun Try.prog 13 [.string (str s)] I L (RX (closedOf s) L) := by
  refine fun_intro (by simp) ?_
  refine s_seq ?_
  refine o_enter rfl ?_
  refine o_alloc .free rfl ?_
  intro b2
  refine o_assign rfl .free rfl ?_
  refine o_done ?_
  refine s_seq ?_
  refine o_enter rfl ?_
  refine o_move rfl .free rfl ?_
  refine o_call rfl .free rfl (f_readExpr s hs _ _) ?_
  rintro _ J _ hleJ ⟨t, cs, ok, rfl, hrep, rfl, hpf⟩
  obtain ⟨oa, cc, vs, rfl, -⟩ := hrep.open
  refine o_move rfl .free rfl ?_
  refine o_extract rfl rfl .free rfl ?_
  refine o_extract rfl rfl .free rfl ?_
  refine o_alloc .free rfl ?_
  intro b4
  refine o_store rfl rfl rfl rfl (by first | rfl | (simp only [List.toList_toArray, List.all_cons, List.all_nil, plainCell_buf, Bool.and_true, Bool.true_and] <;> rfl)) (by first | exact u0 | exact u1 | exact u2 | exact u3 | exact u4 | exact u5 | exact u6) (by rfl) .free ?_
  refine o_assign rfl .free rfl ?_
  refine o_done ?_
  refine s_seq ?_
  refine d_all 10 rfl rfl ?_
  refine d_take 0 [8] rfl (by kernel_rfl) rfl heldx (y_load rfl (loads_ownS (by first | exact m0 | exact m1 | exact m2 | exact m3 | exact m4 | exact m5 | exact m6) (by rfl))) .free rfl ?_
  refine d_takeA 1 rfl (by kernel_rfl) rfl (.inr heldx) (y_move rfl) .free rfl ?_
  refine d_takeA 2 rfl (by kernel_rfl) rfl (.inr heldx) (y_move rfl) .free rfl ?_
  apply d_and 13 18 rfl
  · intro g2_3 hk
    try simp only [Bool.and_eq_true, Bool.or_eq_true, Bool.not_eq_true', Bool.not_eq_false', Bool.and_eq_false_iff, Bool.or_eq_false_iff, decide_eq_true_eq, decide_eq_false_iff_not] at g2_3
    refine d_take 3 [4, 8] rfl (by kernel_rfl) rfl heldx (y_load rfl (loads_ownS (by first | exact m0 | exact m1 | exact m2 | exact m3 | exact m4 | exact m5 | exact m6) (by rfl))) (.met rfl rfl) rfl ?_
    refine d_call 4 rfl (by kernel_rfl) rfl rfl (.met rfl rfl) rfl (f_free_rx hrep hpf g2_3 _) ?_
    rintro _ J2 _ e2 ⟨oz, cz, rfl, hst, rfl⟩
    refine ⟨(.inr heldx), ?_⟩
    refine d_takeA 5 rfl (by kernel_rfl) rfl (.inr heldx) (y_len_slice rfl) (.met rfl rfl) rfl ?_
    refine d_mem (fun w h => Mem.le e2 h) ?_
    refine d_takeA 6 rfl (by kernel_rfl) rfl (.inr heldx) (y_cmp rfl rfl rfl) (.met rfl rfl) rfl ?_
    refine d_takeA 7 rfl (by kernel_rfl) rfl (.inr heldx) (y_pick_true rfl rfl) .free rfl ?_
    exact d_fin 4 rfl rfl hk
  · intro _ hk
    refine d_takeskip 3 rfl (by kernel_rfl) rfl (.inr heldx) rfl rfl rfl ?_
    refine d_takeskip 4 rfl (by kernel_rfl) rfl (.inr heldx) rfl rfl rfl ?_
    refine d_takeskip 5 rfl (by kernel_rfl) rfl (.inr heldx) rfl rfl rfl ?_
    refine d_takeskip 6 rfl (by kernel_rfl) rfl (.inr heldx) rfl rfl rfl ?_
    refine d_takeA 7 rfl (by kernel_rfl) rfl (.inr heldx) (y_pick_false rfl rfl) .free rfl ?_
    exact d_fin 4 rfl rfl hk
  refine d_store 8 rfl (by kernel_rfl) rfl rfl rfl rfl rfl (by first | rfl | (simp only [List.toList_toArray, List.all_cons, List.all_nil, plainCell_buf, Bool.and_true, Bool.true_and] <;> rfl)) (by first | exact u0 | exact u1 | exact u2 | exact u3 | exact u4 | exact u5 | exact u6) (by rfl) .free (.inl (by kernel_rfl)) ?_
  refine d_takeA 9 rfl (by kernel_rfl) rfl (.inl (by kernel_rfl)) (y_assign rfl) .free rfl ?_
  refine d_done (by kernel_rfl) ?_
  refine s_ret (.cell rfl (by first | exact loads_still1 (by assumption) rfl | exact loads_ownS (by first | exact m0 | exact m1 | exact m2 | exact m3 | exact m4 | exact m5 | exact m6) (by rfl) | exact loads_own1 (by first | exact m0 | exact m1 | exact m2 | exact m3 | exact m4 | exact m5 | exact m6) (by rfl) rfl | exact loads_stillS (by assumption) (by rfl) | exact loads_stillF (by assumption) (by rfl) rfl) (.tmp rfl .nil)) ?_
  refine ⟨J, L, hleJ, (by intro _ h; first | exact h | exact dr1 h | exact dr2 h | exact dr3 h | exact dr4 h | exact dr5 h | exact dr6 h), t, _, _, rfl, hrep, rfl, ?_⟩
  have hcf := closedOf_free s
  cases hc : closedOf s with
  | some e =>
    obtain ⟨he, hcl⟩ := closedOf_some hc
    rw [he] at hpf
    rw [hc] at hcf
    simp only [Option.isSome_some, Bool.true_eq, Bool.and_eq_true, decide_eq_true_eq] at hcf
    exact ⟨by rw [hpf.1, hcf.2]; rfl, hpf.2⟩
  | none =>
    rw [hc] at hcf
    cases ok with
    | false => rfl
    | true =>
      obtain ⟨e, he, _⟩ := RX_some hpf rfl
      simp only [freeOf, he, Option.map_some, Option.isSome_some, Option.isSome_none, Option.getD_some, Bool.true_and] at hcf ⊢
      have h1 : e.free ≠ [] := by simpa using hcf.symm
      have h2 := List.length_pos_iff.2 h1
      exact decide_eq_false (by omega)
end Go.Proofs.Ytekfjhopngcneaa
