
/- Bindings put ahead of a normal expression. No conditions. -/
import Derived.Test.YteebkhdnjkchgaaE6
import Derived.Test.YteebkhdnjkchgaaA2
import Derived.Test.YteebkhdnjkchgaaM6
namespace Go.Proofs.Yteebkhdnjkchgaa
set_option maxRecDepth 100000
set_option linter.unusedVariables false
set_option linter.unusedSimpArgs false

theorem RX_some {s : Txt} {t : Tree} {ok : Bool} (hpf : match exOf s with | some e => ok = true ∧ t = e.tree | none => ok = false) (h : ok = true) : ∃ e, exOf s = some e ∧ t = e.tree ∧ e.ok = true ∧ e.tree.len ≤ 12000 ∧ e.fine = true ∧ s = e.tree.text := by
  cases hx : exOf s with
  | none => rw [hx] at hpf; simp [h] at hpf
  | some e =>
    rw [hx] at hpf
    obtain ⟨h1, h2, h3⟩ := exOf_some hx
    have hfine := h2
    simp only [Ex.fine, Bool.and_eq_true, Tree.fits, decide_eq_true_eq] at h2
    exact ⟨e, rfl, hpf.2, h2.1.1, h2.2.2, hfine, h3⟩
theorem RX_none {s : Txt} {t : Tree} {ok : Bool} (hpf : match exOf s with | some e => ok = true ∧ t = e.tree | none => ok = false) (h : ok = false) : exOf s = none := by
  cases hx : exOf s with
  | none => rfl
  | some e => rw [hx] at hpf; simp [h] at hpf
theorem f_norm_rx {I : Heap} {s : Txt} {t : Tree} {cs : List Value} {ok : Bool} (h : Rep I t cs) (hpf : match exOf s with | some e => ok = true ∧ t = e.tree | none => ok = false) (hok : ok = true) (L : Own) :
    Fun Try.prog 23 [.agg cs.toArray] I L (Only (.bool (exNorm true s)) I L) := by
  obtain ⟨e, he, rfl, h1, _⟩ := RX_some hpf hok
  have : exNorm true s = e.norm true := by unfold exNorm normOf; rw [he]; cases hn : e.norm true <;> simp [hn]
  rw [this]; exact f_form_isNormal h h1 L
theorem f_simple_rx {I : Heap} {s : Txt} {t : Tree} {cs : List Value} {ok : Bool} (h : Rep I t cs) (hpf : match exOf s with | some e => ok = true ∧ t = e.tree | none => ok = false) (hok : ok = true) (L : Own) :
    Fun Try.prog 15 [.agg cs.toArray] I L (Only (.bool (exNorm false s)) I L) := by
  obtain ⟨e, he, rfl, h1, _⟩ := RX_some hpf hok
  have : exNorm false s = e.norm false := by unfold exNorm normOf; rw [he]; cases hn : e.norm false <;> simp [hn]
  rw [this]; exact f_form_isSimple h h1 L
theorem g_norm_rx {I : Heap} {s : Txt} {t : Tree} {cs : List Value} {ok : Bool} (h : Rep I t cs) (hpf : match exOf s with | some e => ok = true ∧ t = e.tree | none => ok = false) (hok : ok = true) (L : Own) :
    Fun Try.prog 20 [.agg cs.toArray] I L (Only (.bool (exNorm true s)) I L) := by
  obtain ⟨e, he, rfl, h1, _⟩ := RX_some hpf hok
  have : exNorm true s = e.norm true := by unfold exNorm normOf; rw [he]; cases hn : e.norm true <;> simp [hn]
  rw [this]; exact g_l5Normal h h1 L
theorem g_simple_rx {I : Heap} {s : Txt} {t : Tree} {cs : List Value} {ok : Bool} (h : Rep I t cs) (hpf : match exOf s with | some e => ok = true ∧ t = e.tree | none => ok = false) (hok : ok = true) (L : Own) :
    Fun Try.prog 22 [.agg cs.toArray] I L (Only (.bool (exNorm false s)) I L) := by
  obtain ⟨e, he, rfl, h1, _⟩ := RX_some hpf hok
  have : exNorm false s = e.norm false := by unfold exNorm normOf; rw [he]; cases hn : e.norm false <;> simp [hn]
  rw [this]; exact g_l5Simple h h1 L
theorem exNorm_and {s : Txt} {t : Tree} {ok : Bool} (hpf : match exOf s with | some e => ok = true ∧ t = e.tree | none => ok = false) (b : Bool) : (ok && exNorm b s) = exNorm b s := by
  cases ok with
  | true => rfl
  | false => rw [exNorm, normOf, RX_none hpf rfl]; rfl

/-- What reading a simple or a normal expression returns. -/
def RN (p : Option Ex) (L : Own) : Post := RX p L
theorem f_readNormal (s : Txt) (hs : s.length ≤ maxN) (I : Heap) (L : Own) : Fun Try.prog 12 [.string (str s)] I L (RX (normOf true s) L) := by
  refine fun_intro (by simp) ?_
  refine s_seq ?_
  refine o_enter rfl ?_
  refine o_alloc .free rfl ?_
  intro b2
  refine o_assign rfl .free rfl ?_
  refine o_done ?_
  refine s_seq ?_
  refine o_enter rfl ?_
  refine o_move rfl .free rfl ?_
  refine o_call rfl .free rfl (f_readExpr s hs _ _) ?_
  rintro _ J _ hleJ ⟨t, cs, ok, rfl, hrep, rfl, hpf⟩
  obtain ⟨oa, cc, vs, rfl, -⟩ := hrep.open
  refine o_move rfl .free rfl ?_
  refine o_extract rfl rfl .free rfl ?_
  refine o_extract rfl rfl .free rfl ?_
  refine o_alloc .free rfl ?_
  intro b4
  refine o_store rfl rfl rfl rfl (by first | rfl | (simp only [List.toList_toArray, List.all_cons, List.all_nil, plainCell_buf, Bool.and_true, Bool.true_and] <;> rfl)) (by first | exact u0 | exact u1 | exact u2 | exact u3 | exact u4 | exact u5 | exact u6) (by rfl) .free ?_
  refine o_assign rfl .free rfl ?_
  refine o_done ?_
  refine s_seq ?_
  refine d_all 8 rfl rfl ?_
  refine d_take 0 [6] rfl (by kernel_rfl) rfl (by intro _ h; first | exact h | exact h.er 0 rfl | exact h.er 1 rfl | exact h.er 2 rfl | exact h.er 3 rfl | exact h.er 4 rfl | exact Mem.le (by assumption) h | exact Mem.le (by assumption) (h.er 0 rfl) | exact Mem.le (by assumption) (h.er 1 rfl) | exact Mem.le (by assumption) (h.er 2 rfl) | exact Mem.le (by assumption) (h.er 3 rfl) | exact h.er 5 rfl | exact h.er 6 rfl) (y_load rfl (loads_ownS (by first | exact m0 | exact m1 | exact m2 | exact m3 | exact m4 | exact m5 | exact m6) (by rfl))) .free rfl ?_
  refine d_takeA 1 rfl (by kernel_rfl) rfl (.inr (by intro _ h; first | exact h | exact h.er 0 rfl | exact h.er 1 rfl | exact h.er 2 rfl | exact h.er 3 rfl | exact h.er 4 rfl | exact Mem.le (by assumption) h | exact Mem.le (by assumption) (h.er 0 rfl) | exact Mem.le (by assumption) (h.er 1 rfl) | exact Mem.le (by assumption) (h.er 2 rfl) | exact Mem.le (by assumption) (h.er 3 rfl) | exact h.er 5 rfl | exact h.er 6 rfl)) (y_move rfl) .free rfl ?_
  refine d_takeA 2 rfl (by kernel_rfl) rfl (.inr (by intro _ h; first | exact h | exact h.er 0 rfl | exact h.er 1 rfl | exact h.er 2 rfl | exact h.er 3 rfl | exact h.er 4 rfl | exact Mem.le (by assumption) h | exact Mem.le (by assumption) (h.er 0 rfl) | exact Mem.le (by assumption) (h.er 1 rfl) | exact Mem.le (by assumption) (h.er 2 rfl) | exact Mem.le (by assumption) (h.er 3 rfl) | exact h.er 5 rfl | exact h.er 6 rfl)) (y_move rfl) .free rfl ?_
  apply d_and 13 16 rfl
  · intro g2_3 hk
    try simp only [Bool.and_eq_true, Bool.or_eq_true, Bool.not_eq_true', Bool.not_eq_false', Bool.and_eq_false_iff, Bool.or_eq_false_iff, decide_eq_true_eq, decide_eq_false_iff_not] at g2_3
    refine d_take 3 [4, 6] rfl (by kernel_rfl) rfl (by intro _ h; first | exact h | exact h.er 0 rfl | exact h.er 1 rfl | exact h.er 2 rfl | exact h.er 3 rfl | exact h.er 4 rfl | exact Mem.le (by assumption) h | exact Mem.le (by assumption) (h.er 0 rfl) | exact Mem.le (by assumption) (h.er 1 rfl) | exact Mem.le (by assumption) (h.er 2 rfl) | exact Mem.le (by assumption) (h.er 3 rfl) | exact h.er 5 rfl | exact h.er 6 rfl) (y_load rfl (loads_ownS (by first | exact m0 | exact m1 | exact m2 | exact m3 | exact m4 | exact m5 | exact m6) (by rfl))) (.met rfl rfl) rfl ?_
    refine d_call 4 rfl (by kernel_rfl) rfl rfl (.met rfl rfl) rfl (f_norm_rx hrep hpf g2_3 _) ?_
    rintro _ _ _ _ ⟨rfl, rfl, rfl⟩
    refine ⟨(.inr (by intro _ h; first | exact h | exact h.er 0 rfl | exact h.er 1 rfl | exact h.er 2 rfl | exact h.er 3 rfl | exact h.er 4 rfl | exact Mem.le (by assumption) h | exact Mem.le (by assumption) (h.er 0 rfl) | exact Mem.le (by assumption) (h.er 1 rfl) | exact Mem.le (by assumption) (h.er 2 rfl) | exact Mem.le (by assumption) (h.er 3 rfl) | exact h.er 5 rfl | exact h.er 6 rfl)), ?_⟩
    refine d_takeA 5 rfl (by kernel_rfl) rfl (.inr (by intro _ h; first | exact h | exact h.er 0 rfl | exact h.er 1 rfl | exact h.er 2 rfl | exact h.er 3 rfl | exact h.er 4 rfl | exact Mem.le (by assumption) h | exact Mem.le (by assumption) (h.er 0 rfl) | exact Mem.le (by assumption) (h.er 1 rfl) | exact Mem.le (by assumption) (h.er 2 rfl) | exact Mem.le (by assumption) (h.er 3 rfl) | exact h.er 5 rfl | exact h.er 6 rfl)) (y_pick_true rfl rfl) .free rfl ?_
    exact d_fin 2 rfl rfl hk
  · intro _ hk
    refine d_takeskip 3 rfl (by kernel_rfl) rfl (.inr (by intro _ h; first | exact h | exact h.er 0 rfl | exact h.er 1 rfl | exact h.er 2 rfl | exact h.er 3 rfl | exact h.er 4 rfl | exact Mem.le (by assumption) h | exact Mem.le (by assumption) (h.er 0 rfl) | exact Mem.le (by assumption) (h.er 1 rfl) | exact Mem.le (by assumption) (h.er 2 rfl) | exact Mem.le (by assumption) (h.er 3 rfl) | exact h.er 5 rfl | exact h.er 6 rfl)) rfl rfl rfl ?_
    refine d_takeskip 4 rfl (by kernel_rfl) rfl (.inr (by intro _ h; first | exact h | exact h.er 0 rfl | exact h.er 1 rfl | exact h.er 2 rfl | exact h.er 3 rfl | exact h.er 4 rfl | exact Mem.le (by assumption) h | exact Mem.le (by assumption) (h.er 0 rfl) | exact Mem.le (by assumption) (h.er 1 rfl) | exact Mem.le (by assumption) (h.er 2 rfl) | exact Mem.le (by assumption) (h.er 3 rfl) | exact h.er 5 rfl | exact h.er 6 rfl)) rfl rfl rfl ?_
    refine d_takeA 5 rfl (by kernel_rfl) rfl (.inr (by intro _ h; first | exact h | exact h.er 0 rfl | exact h.er 1 rfl | exact h.er 2 rfl | exact h.er 3 rfl | exact h.er 4 rfl | exact Mem.le (by assumption) h | exact Mem.le (by assumption) (h.er 0 rfl) | exact Mem.le (by assumption) (h.er 1 rfl) | exact Mem.le (by assumption) (h.er 2 rfl) | exact Mem.le (by assumption) (h.er 3 rfl) | exact h.er 5 rfl | exact h.er 6 rfl)) (y_pick_false rfl rfl) .free rfl ?_
    exact d_fin 2 rfl rfl hk
  refine d_store 6 rfl (by kernel_rfl) rfl rfl rfl rfl rfl (by first | rfl | (simp only [List.toList_toArray, List.all_cons, List.all_nil, plainCell_buf, Bool.and_true, Bool.true_and] <;> rfl)) (by first | exact u0 | exact u1 | exact u2 | exact u3 | exact u4 | exact u5 | exact u6) (by rfl) .free (.inl (by kernel_rfl)) ?_
  refine d_takeA 7 rfl (by kernel_rfl) rfl (.inl (by kernel_rfl)) (y_assign rfl) .free rfl ?_
  refine d_done (by kernel_rfl) ?_
  refine s_ret (.cell rfl (by first | exact loads_still1 (by assumption) rfl | exact loads_ownS (by first | exact m0 | exact m1 | exact m2 | exact m3 | exact m4 | exact m5 | exact m6) (by rfl) | exact loads_own1 (by first | exact m0 | exact m1 | exact m2 | exact m3 | exact m4 | exact m5 | exact m6) (by rfl) rfl | exact loads_stillS (by assumption) (by rfl) | exact loads_stillF (by assumption) (by rfl) rfl) (.tmp rfl .nil)) ?_
  refine ⟨J, L, hleJ, (by intro _ h; first | exact h | exact dr1 h | exact dr2 h | exact dr3 h | exact dr4 h | exact dr5 h | exact dr6 h), t, _, _, rfl, hrep, rfl, ?_⟩
  rw [exNorm_and hpf]
  unfold exNorm
  cases hn : normOf true s with
  | none => rfl
  | some e =>
    have he := (normOf_some hn).1
    rw [he] at hpf
    exact ⟨rfl, hpf.2⟩
theorem g_SimpleIs (s : Txt) (hs : s.length ≤ maxN) (I : Heap) (L : Own) : Fun Try.prog 11 [.string (str s)] I L (Only (.bool (exNorm false s)) I L) := by
  refine fun_intro (by simp) ?_
  refine s_seq ?_
  refine o_enter rfl ?_
  refine o_assign rfl .free rfl ?_
  refine o_done ?_
  refine s_seq ?_
  refine o_enter rfl ?_
  refine o_move rfl .free rfl ?_
  refine o_call rfl .free rfl (g_l2Parse s hs _ _) ?_
  rintro _ J _ hleJ ⟨t, cs, ok, rfl, hrep, rfl, hpf⟩
  obtain ⟨oa, cc, vs, rfl, -⟩ := hrep.open
  refine o_move rfl .free rfl ?_
  refine o_extract rfl rfl .free rfl ?_
  refine o_extract rfl rfl .free rfl ?_
  refine o_alloc .free rfl ?_
  intro b3
  refine o_store rfl rfl rfl rfl (by first | rfl | (simp only [List.toList_toArray, List.all_cons, List.all_nil, plainCell_buf, Bool.and_true, Bool.true_and] <;> rfl)) (by first | exact u0 | exact u1 | exact u2 | exact u3 | exact u4 | exact u5 | exact u6) (by rfl) .free ?_
  refine o_assign rfl .free rfl ?_
  refine o_done ?_
  refine s_seq ?_
  refine o_enter rfl ?_
  refine o_move rfl .free rfl ?_
  refine o_move rfl .free rfl ?_
  apply o_and 11 14 rfl
  · intro g2_2 hk
    try simp only [Bool.and_eq_true, Bool.or_eq_true, Bool.not_eq_true', Bool.not_eq_false', Bool.and_eq_false_iff, Bool.or_eq_false_iff, decide_eq_true_eq, decide_eq_false_iff_not] at g2_2
    refine o_load rfl (loads_ownS (by first | exact m0 | exact m1 | exact m2 | exact m3 | exact m4 | exact m5 | exact m6) (by rfl)) (.met rfl rfl) rfl ?_
    refine o_call rfl (.met rfl rfl) rfl (g_simple_rx hrep hpf g2_2 _) ?_
    rintro _ _ _ _ ⟨rfl, rfl, rfl⟩
    refine o_pick_true rfl rfl .free rfl ?_
    exact o_fin 2 rfl rfl hk
  · intro _ hk
    refine o_skips 2 rfl ?_
    refine o_pick_false rfl rfl .free rfl ?_
    exact o_fin 2 rfl rfl hk
  refine o_assign rfl .free rfl ?_
  refine o_done ?_
  refine s_ret (.tmp rfl .nil) ?_
  refine done_fgt hleJ (by intro _ h; first | exact h | exact dr1 h | exact dr2 h | exact dr3 h | exact dr4 h | exact dr5 h | exact dr6 h) ?_
  rw [exNorm_and hpf]; rfl
theorem g_NormalIs (s : Txt) (hs : s.length ≤ maxL) (I : Heap) (L : Own) : Fun Try.prog 9 [.string (str s)] I L (Only (.bool (exNorm true s)) I L) := by
  refine fun_intro (by simp) ?_
  refine s_seq ?_
  refine o_enter rfl ?_
  refine o_assign rfl .free rfl ?_
  refine o_done ?_
  refine s_seq ?_
  refine o_enter rfl ?_
  refine o_move rfl .free rfl ?_
  refine o_call rfl .free rfl (g_l2Parse' s hs _ _) ?_
  rintro _ J _ hleJ ⟨t, cs, ok, rfl, hrep, rfl, hpf⟩
  obtain ⟨oa, cc, vs, rfl, -⟩ := hrep.open
  refine o_move rfl .free rfl ?_
  refine o_extract rfl rfl .free rfl ?_
  refine o_extract rfl rfl .free rfl ?_
  refine o_alloc .free rfl ?_
  intro b3
  refine o_store rfl rfl rfl rfl (by first | rfl | (simp only [List.toList_toArray, List.all_cons, List.all_nil, plainCell_buf, Bool.and_true, Bool.true_and] <;> rfl)) (by first | exact u0 | exact u1 | exact u2 | exact u3 | exact u4 | exact u5 | exact u6) (by rfl) .free ?_
  refine o_assign rfl .free rfl ?_
  refine o_done ?_
  refine s_seq ?_
  refine o_enter rfl ?_
  refine o_move rfl .free rfl ?_
  refine o_move rfl .free rfl ?_
  apply o_and 11 14 rfl
  · intro g2_2 hk
    try simp only [Bool.and_eq_true, Bool.or_eq_true, Bool.not_eq_true', Bool.not_eq_false', Bool.and_eq_false_iff, Bool.or_eq_false_iff, decide_eq_true_eq, decide_eq_false_iff_not] at g2_2
    refine o_load rfl (loads_ownS (by first | exact m0 | exact m1 | exact m2 | exact m3 | exact m4 | exact m5 | exact m6) (by rfl)) (.met rfl rfl) rfl ?_
    refine o_call rfl (.met rfl rfl) rfl (g_norm_rx hrep hpf g2_2 _) ?_
    rintro _ _ _ _ ⟨rfl, rfl, rfl⟩
    refine o_pick_true rfl rfl .free rfl ?_
    exact o_fin 2 rfl rfl hk
  · intro _ hk
    refine o_skips 2 rfl ?_
    refine o_pick_false rfl rfl .free rfl ?_
    exact o_fin 2 rfl rfl hk
  refine o_assign rfl .free rfl ?_
  refine o_done ?_
  refine s_ret (.tmp rfl .nil) ?_
  refine done_fgt hleJ (by intro _ h; first | exact h | exact dr1 h | exact dr2 h | exact dr3 h | exact dr4 h | exact dr5 h | exact dr6 h) ?_
  rw [exNorm_and hpf]; rfl

/- Bindings in memory. -/
inductive BindL : Heap → Bds → List Value → Prop
  | nil {I : Heap} : BindL I [] []
  | cons {I : Heap} {x : Txt} {e : Ex} {bs : Bds} {c1 c2 : Value} {vs : List Value} (hx : x.length ≤ maxN) (h : Rep I e.tree [c1, c2]) (hs : BindL I bs vs) : BindL I ((x, e) :: bs) (.string (str x) :: c1 :: c2 :: vs)
theorem BindL.mono {I I' : Heap} (hle : HLe I I') {bs : Bds} {vs : List Value} (h : BindL I bs vs) : BindL I' bs vs := by
  induction h with
  | nil => exact .nil
  | cons hx h _ ih => exact .cons hx (h.mono hle) ih
theorem BindL.length {I : Heap} {bs : Bds} {vs : List Value} (h : BindL I bs vs) : vs.length = bs.length * 3 := by
  induction h with
  | nil => rfl
  | cons hx h _ ih => simp [ih]; omega
theorem BindL.plain {I : Heap} {bs : Bds} {vs : List Value} (h : BindL I bs vs) : vs.all plainCell = true := by
  induction h with
  | nil => rfl
  | cons hx h _ ih =>
    have h2 := h.vals
    simp only [List.all_cons, List.all_nil, Bool.and_true, Bool.and_eq_true] at h2 ⊢
    exact ⟨rfl, h2.1, h2.2, ih⟩
theorem BindL.append {I : Heap} {bs cs : Bds} {vs ws : List Value} (h : BindL I bs vs) (h' : BindL I cs ws) : BindL I (bs ++ cs) (vs ++ ws) := by
  induction h with
  | nil => exact h'
  | cons hx h _ ih => exact .cons hx h ih
theorem BindL.get {I : Heap} {bs : Bds} {vs : List Value} (h : BindL I bs vs) : ∀ i (hi : i < bs.length), ∃ c1 c2, Rep I bs[i].2.tree [c1, c2] ∧ bs[i].1.length ≤ maxN ∧ vs[i * 3]? = some (.string (str bs[i].1)) ∧ vs[i * 3 + 1]? = some c1 ∧ vs[i * 3 + 2]? = some c2 := by
  induction h with
  | nil => intro i hi; simp at hi
  | @cons x e bs c1 c2 vs hx h hs ih =>
    intro i hi
    cases i with
    | zero => exact ⟨c1, c2, h, hx, rfl, rfl, rfl⟩
    | succ i =>
      obtain ⟨d1, d2, h1, h2, h3, h4, h5⟩ := ih i (by simpa using hi)
      refine ⟨d1, d2, by simpa using h1, by simpa using h2, ?_, ?_, ?_⟩
      · rw [show (i + 1) * 3 = i * 3 + 1 + 1 + 1 by omega]; simpa using h3
      · rw [show (i + 1) * 3 + 1 = i * 3 + 1 + 1 + 1 + 1 by omega]; simpa using h4
      · rw [show (i + 1) * 3 + 2 = i * 3 + 2 + 1 + 1 + 1 by omega]; simpa using h5
structure Binds (I : Heap) (oa : Option Addr) (bs : Bds) (c : Nat) : Prop where
  rep : ∃ vs, BindL I bs vs ∧ ∀ x, oa = some x → Still I x vs
  nil : oa = none → bs.length = 0
  cap : bs.length ≤ c
  len : bs.length ≤ maxN
theorem Binds.mono {I I' : Heap} (hle : HLe I I') {oa : Option Addr} {bs : Bds} {c : Nat} (h : Binds I oa bs c) : Binds I' oa bs c := by
  obtain ⟨⟨vs, h1, h2⟩, h3, h4, h5⟩ := h
  exact ⟨⟨vs, h1.mono hle, fun x hx => (h2 x hx).mono hle⟩, h3, h4, h5⟩
theorem Binds.at {I : Heap} {oa : Option Addr} {bs : Bds} {c : Nat} (h : Binds I oa bs c) (i : Nat) (hi : i < bs.length) :
    ∃ ob d, Rep I bs[i].2.tree [.string (str bs[i].2.tree.atom), .slice ob bs[i].2.tree.parts.length d] ∧ bs[i].1.length ≤ maxN ∧
      Still I ((oad oa).add (i * 3)) [.string (str bs[i].1), .string (str bs[i].2.tree.atom), .slice ob bs[i].2.tree.parts.length d] := by
  obtain ⟨⟨vs, h1, h2⟩, h3, h4, h5⟩ := h
  obtain ⟨c1, c2, r, hx, e1, e2, e3⟩ := h1.get i hi
  obtain ⟨ob, d, ws, he, _⟩ := r.open
  simp only [List.cons.injEq, and_true] at he
  obtain ⟨rfl, rfl⟩ := he
  obtain ⟨y, rfl⟩ : ∃ y, oa = some y := by
    cases oa with
    | none => have := h3 rfl; omega
    | some y => exact ⟨y, rfl⟩
  refine ⟨ob, d, r, hx, (h2 y rfl).part (i * 3) ?_⟩
  intro j hj
  match j, hj with
  | 0, _ => simpa using e1
  | 1, _ => simpa using e2
  | 2, _ => simpa using e3
theorem s_freezeBinds {P : Program} {f : FuncId} {n : Nat} {I₀ : Heap} {Q : Post} {todo : List Item} {E : Env} {I : Heap} {L : Own} {e : TypeId} {bs : Bds} {xs : List Value} {B : Buf} {m c : Nat}
    (hb : BindL I bs xs) (hB : BufOk 3 m c xs B) (hm : m = bs.length) (hp : m ≤ maxN)
    (h : ∀ I' oa c', HLe I I' → bufVal m c B = .slice oa bs.length c' → Binds I' oa bs c' → RunS P f n I₀ Q todo E I' L) : RunS P f n I₀ Q todo E I (bufOwn e xs B ++ L) := by
  cases B with
  | none =>
    obtain ⟨rfl, rfl, rfl⟩ := hB
    obtain rfl : bs = [] := List.length_eq_zero_iff.1 hm.symm
    exact h I none 0 (.refl _) rfl ⟨⟨[], .nil, by simp⟩, fun _ => rfl, by simp, by simp⟩
  | some p =>
    obtain ⟨b, sp⟩ := p
    refine s_freeze fun hle => h _ (some ⟨b, 0, none⟩) c hle (by rw [← hm]; rfl) ⟨⟨xs, hb.mono hle, fun y hy => ?_⟩, by simp, by have := hB.2.1; omega, by omega⟩
    cases hy; exact still_set
/-- An expression that a loop has made, and where it lies. -/
structure YS where
  I : Heap
  k : Nat
  oa : Option Addr
  c : Nat
theorem f_bindAll {I : Heap} {oa : Option Addr} {bs : Bds} {c : Nat} (h : Binds I oa bs c) {f : Ex} {cs : List Value} (hf : Rep I f.tree cs) (L : Own) :
    Fun Try.prog 16 [.slice oa bs.length c, .agg cs.toArray] I L (RP (lets bs f).tree L) := by
  obtain ⟨of, cf, _, rfl, -⟩ := hf.open
  have hlen := h.len
  unfold maxN at hlen
  refine fun_intro (by simp) ?_
  refine s_seq ?_
  refine o_enter rfl ?_
  refine o_box rfl rfl .free rfl ?_
  intro b3
  refine o_alloc .free rfl ?_
  intro b4
  refine o_done ?_
  refine s_seq ?_
  refine s_seq ?_
  refine o_enter rfl ?_
  refine o_move rfl .free rfl ?_
  refine o_len_slice rfl .free rfl ?_
  refine o_arith rfl rfl rfl (by omega) .free rfl ?_
  refine o_assign rfl .free rfl ?_
  refine o_done ?_
  refine s_block ?_
  refine s_while (X := YS) (fun x => x.k) (fun x => [(0, .slice oa bs.length c), (3, .pointer (some ⟨b3, 0, none⟩)), (4, .pointer (some ⟨b4, 0, none⟩)), (5, .int .i64 ((x.k : Int) - 1))]) (fun x => x.I) (fun x => (b4, .cells [.string (str []), .slice none 0 0].toArray 32 (0, 0)) :: (b3, .cells [.string (str (lets (bs.drop x.k) f).tree.atom), .slice x.oa (lets (bs.drop x.k) f).tree.parts.length x.c].toArray 32 (0, 0)) :: L) (fun x => HLe I x.I ∧ x.k ≤ bs.length ∧ Rep x.I (lets (bs.drop x.k) f).tree [.string (str (lets (bs.drop x.k) f).tree.atom), .slice x.oa (lets (bs.drop x.k) f).tree.parts.length x.c]) ⟨I, bs.length, of, cf⟩ ⟨.refl _, Nat.le_refl _, by simpa [lets] using hf⟩ ⟨rfl, rfl, rfl, rfl, trivial⟩ (fun w hw => by simpa [lets] using hw) ?_
  rintro ⟨J, k, ob, d⟩ ⟨hle, hk, hr⟩ ih
  simp only at hle hk hr ih
  dsimp only
  refine s_seq ?_
  refine s_seq ?_
  refine o_enter rfl ?_
  refine o_move rfl .free rfl ?_
  refine o_cmp rfl rfl rfl .free rfl ?_
  refine o_done ?_
  refine s_cond rfl ?_ ?_
  · intro c0
    try simp only [Bool.and_eq_true, Bool.or_eq_true, Bool.not_eq_true', Bool.not_eq_false', Bool.and_eq_false_iff, Bool.or_eq_false_iff, decide_eq_true_eq, decide_eq_false_iff_not] at c0
    obtain ⟨k, rfl⟩ : ∃ m, k = m + 1 := ⟨k - 1, by omega⟩
    refine s_put (t := 5) (v' := .int .i64 (k : Nat)) rfl (by congr 1; omega) ?_
    obtain ⟨oe, de, hre, hxl, hst⟩ := (h.mono hle).at k (by omega)
    have hnil := h.nil
    refine s_skip ?_
    refine s_seq ?_
    refine s_block ?_
    refine d_all 15 rfl rfl ?_
    refine d_takeA 0 rfl (by kernel_rfl) rfl (.inr (by intro _ h; first | exact h | exact h.er 0 rfl | exact h.er 1 rfl | exact h.er 2 rfl | exact h.er 3 rfl | exact h.er 4 rfl | exact Mem.le (by assumption) h | exact Mem.le (by assumption) (h.er 0 rfl) | exact Mem.le (by assumption) (h.er 1 rfl) | exact Mem.le (by assumption) (h.er 2 rfl) | exact Mem.le (by assumption) (h.er 3 rfl) | exact h.er 5 rfl | exact h.er 6 rfl)) (y_move rfl) .free rfl ?_
    refine d_takeA 1 rfl (by kernel_rfl) rfl (.inr (by intro _ h; first | exact h | exact h.er 0 rfl | exact h.er 1 rfl | exact h.er 2 rfl | exact h.er 3 rfl | exact h.er 4 rfl | exact Mem.le (by assumption) h | exact Mem.le (by assumption) (h.er 0 rfl) | exact Mem.le (by assumption) (h.er 1 rfl) | exact Mem.le (by assumption) (h.er 2 rfl) | exact Mem.le (by assumption) (h.er 3 rfl) | exact h.er 5 rfl | exact h.er 6 rfl)) (y_move rfl) .free rfl ?_
    first | refine d_takeA 2 rfl (by kernel_rfl) rfl (.inr (by intro _ h; first | exact h | exact h.er 0 rfl | exact h.er 1 rfl | exact h.er 2 rfl | exact h.er 3 rfl | exact h.er 4 rfl | exact Mem.le (by assumption) h | exact Mem.le (by assumption) (h.er 0 rfl) | exact Mem.le (by assumption) (h.er 1 rfl) | exact Mem.le (by assumption) (h.er 2 rfl) | exact Mem.le (by assumption) (h.er 3 rfl) | exact h.er 5 rfl | exact h.er 6 rfl)) (y_indexAddrD rfl rfl _ rfl (by first | omega | exact lt_of (by assumption) (by decide) | (simp; done) | (simp; omega) | decide | (simp at *; omega)) (by first | assumption | exact FormAt.nil (by assumption) | exact Strs.nil' (by assumption) | exact Nums.nil' (by assumption) | exact Raw.nil' (by assumption))) .free rfl ?_ | refine d_takeA 2 rfl (by kernel_rfl) rfl (.inr (by intro _ h; first | exact h | exact h.er 0 rfl | exact h.er 1 rfl | exact h.er 2 rfl | exact h.er 3 rfl | exact h.er 4 rfl | exact Mem.le (by assumption) h | exact Mem.le (by assumption) (h.er 0 rfl) | exact Mem.le (by assumption) (h.er 1 rfl) | exact Mem.le (by assumption) (h.er 2 rfl) | exact Mem.le (by assumption) (h.er 3 rfl) | exact h.er 5 rfl | exact h.er 6 rfl)) (y_indexAddr' rfl rfl _ rfl (by first | omega | exact lt_of (by assumption) (by decide) | (simp; done) | (simp; omega) | decide | (simp at *; omega)) (by first | rfl | assumption)) .free rfl ?_
    refine d_takeA 3 rfl (by kernel_rfl) rfl (.inr (by intro _ h; first | exact h | exact h.er 0 rfl | exact h.er 1 rfl | exact h.er 2 rfl | exact h.er 3 rfl | exact h.er 4 rfl | exact Mem.le (by assumption) h | exact Mem.le (by assumption) (h.er 0 rfl) | exact Mem.le (by assumption) (h.er 1 rfl) | exact Mem.le (by assumption) (h.er 2 rfl) | exact Mem.le (by assumption) (h.er 3 rfl) | exact h.er 5 rfl | exact h.er 6 rfl)) (y_fieldAddr' rfl) .free rfl ?_
    refine d_take 4 [14] rfl (by kernel_rfl) rfl (by intro _ h; first | exact h | exact h.er 0 rfl | exact h.er 1 rfl | exact h.er 2 rfl | exact h.er 3 rfl | exact h.er 4 rfl | exact Mem.le (by assumption) h | exact Mem.le (by assumption) (h.er 0 rfl) | exact Mem.le (by assumption) (h.er 1 rfl) | exact Mem.le (by assumption) (h.er 2 rfl) | exact Mem.le (by assumption) (h.er 3 rfl) | exact h.er 5 rfl | exact h.er 6 rfl) (y_load rfl (by first | exact loads_stillF (FormAt.st (by assumption) _ (by first | omega | decide | (simp; done) | exact lt_of (by assumption) (by decide))) (by rfl) rfl | exact loads_stillF (by assumption) (by rfl) rfl)) .free rfl ?_
    refine d_takeA 6 rfl (by kernel_rfl) rfl (.inr (by intro _ h; first | exact h | exact h.er 0 rfl | exact h.er 1 rfl | exact h.er 2 rfl | exact h.er 3 rfl | exact h.er 4 rfl | exact Mem.le (by assumption) h | exact Mem.le (by assumption) (h.er 0 rfl) | exact Mem.le (by assumption) (h.er 1 rfl) | exact Mem.le (by assumption) (h.er 2 rfl) | exact Mem.le (by assumption) (h.er 3 rfl) | exact h.er 5 rfl | exact h.er 6 rfl)) (y_move rfl) .free rfl ?_
    refine d_takeA 7 rfl (by kernel_rfl) rfl (.inr (by intro _ h; first | exact h | exact h.er 0 rfl | exact h.er 1 rfl | exact h.er 2 rfl | exact h.er 3 rfl | exact h.er 4 rfl | exact Mem.le (by assumption) h | exact Mem.le (by assumption) (h.er 0 rfl) | exact Mem.le (by assumption) (h.er 1 rfl) | exact Mem.le (by assumption) (h.er 2 rfl) | exact Mem.le (by assumption) (h.er 3 rfl) | exact h.er 5 rfl | exact h.er 6 rfl)) (y_move rfl) .free rfl ?_
    first | refine d_takeA 8 rfl (by kernel_rfl) rfl (.inr (by intro _ h; first | exact h | exact h.er 0 rfl | exact h.er 1 rfl | exact h.er 2 rfl | exact h.er 3 rfl | exact h.er 4 rfl | exact Mem.le (by assumption) h | exact Mem.le (by assumption) (h.er 0 rfl) | exact Mem.le (by assumption) (h.er 1 rfl) | exact Mem.le (by assumption) (h.er 2 rfl) | exact Mem.le (by assumption) (h.er 3 rfl) | exact h.er 5 rfl | exact h.er 6 rfl)) (y_indexAddrD rfl rfl _ rfl (by first | omega | exact lt_of (by assumption) (by decide) | (simp; done) | (simp; omega) | decide | (simp at *; omega)) (by first | assumption | exact FormAt.nil (by assumption) | exact Strs.nil' (by assumption) | exact Nums.nil' (by assumption) | exact Raw.nil' (by assumption))) .free rfl ?_ | refine d_takeA 8 rfl (by kernel_rfl) rfl (.inr (by intro _ h; first | exact h | exact h.er 0 rfl | exact h.er 1 rfl | exact h.er 2 rfl | exact h.er 3 rfl | exact h.er 4 rfl | exact Mem.le (by assumption) h | exact Mem.le (by assumption) (h.er 0 rfl) | exact Mem.le (by assumption) (h.er 1 rfl) | exact Mem.le (by assumption) (h.er 2 rfl) | exact Mem.le (by assumption) (h.er 3 rfl) | exact h.er 5 rfl | exact h.er 6 rfl)) (y_indexAddr' rfl rfl _ rfl (by first | omega | exact lt_of (by assumption) (by decide) | (simp; done) | (simp; omega) | decide | (simp at *; omega)) (by first | rfl | assumption)) .free rfl ?_
    refine d_takeA 9 rfl (by kernel_rfl) rfl (.inr (by intro _ h; first | exact h | exact h.er 0 rfl | exact h.er 1 rfl | exact h.er 2 rfl | exact h.er 3 rfl | exact h.er 4 rfl | exact Mem.le (by assumption) h | exact Mem.le (by assumption) (h.er 0 rfl) | exact Mem.le (by assumption) (h.er 1 rfl) | exact Mem.le (by assumption) (h.er 2 rfl) | exact Mem.le (by assumption) (h.er 3 rfl) | exact h.er 5 rfl | exact h.er 6 rfl)) (y_fieldAddr' rfl) .free rfl ?_
    refine d_take 10 [14] rfl (by kernel_rfl) rfl (by intro _ h; first | exact h | exact h.er 0 rfl | exact h.er 1 rfl | exact h.er 2 rfl | exact h.er 3 rfl | exact h.er 4 rfl | exact Mem.le (by assumption) h | exact Mem.le (by assumption) (h.er 0 rfl) | exact Mem.le (by assumption) (h.er 1 rfl) | exact Mem.le (by assumption) (h.er 2 rfl) | exact Mem.le (by assumption) (h.er 3 rfl) | exact h.er 5 rfl | exact h.er 6 rfl) (y_load rfl (by first | exact loads_stillFS (FormAt.st (by assumption) _ (by first | omega | decide | (simp; done) | exact lt_of (by assumption) (by decide))) (by rfl) | exact loads_stillFS (by assumption) (by rfl))) .free rfl ?_
    refine d_take 11 [14] rfl (by kernel_rfl) rfl (by intro _ h; first | exact h | exact h.er 0 rfl | exact h.er 1 rfl | exact h.er 2 rfl | exact h.er 3 rfl | exact h.er 4 rfl | exact Mem.le (by assumption) h | exact Mem.le (by assumption) (h.er 0 rfl) | exact Mem.le (by assumption) (h.er 1 rfl) | exact Mem.le (by assumption) (h.er 2 rfl) | exact Mem.le (by assumption) (h.er 3 rfl) | exact h.er 5 rfl | exact h.er 6 rfl) (y_load rfl (loads_ownS (by first | exact m0 | exact m1 | exact m2 | exact m3 | exact m4 | exact m5 | exact m6) (by rfl))) .free rfl ?_
    refine d_call 5 rfl (by kernel_rfl) rfl rfl .free rfl (f_atom _ hxl _ _) ?_
    rintro _ _ _ _ ⟨rfl, rfl, rfl⟩
    refine ⟨(.inr (by intro _ h; first | exact h | exact h.er 0 rfl | exact h.er 1 rfl | exact h.er 2 rfl | exact h.er 3 rfl | exact h.er 4 rfl | exact Mem.le (by assumption) h | exact Mem.le (by assumption) (h.er 0 rfl) | exact Mem.le (by assumption) (h.er 1 rfl) | exact Mem.le (by assumption) (h.er 2 rfl) | exact Mem.le (by assumption) (h.er 3 rfl) | exact h.er 5 rfl | exact h.er 6 rfl)), ?_⟩
    refine d_lits 12 rfl (by kernel_rfl) rfl rfl rfl (by rfl) (by rfl) (by rfl) (by decide) (by decide) (by rfl) .free rfl (.inr (by intro _ h; first | exact h | exact h.er 0 rfl | exact h.er 1 rfl | exact h.er 2 rfl | exact h.er 3 rfl | exact h.er 4 rfl | exact Mem.le (by assumption) h | exact Mem.le (by assumption) (h.er 0 rfl) | exact Mem.le (by assumption) (h.er 1 rfl) | exact Mem.le (by assumption) (h.er 2 rfl) | exact Mem.le (by assumption) (h.er 3 rfl) | exact h.er 5 rfl | exact h.er 6 rfl)) ?_
    intro b25
    refine d_freeze ?_
    intro hz
    have hfs := forms_lit0 (c := 3) (b := b25) (RepL.three (.ofAtom hxl) hre hr) hz (by simp) (by simp [maxN])
    refine d_call 13 rfl (by kernel_rfl) rfl rfl .free rfl (f_headed tLet (by decide) hfs (by simp [maxN]) _) ?_
    rintro _ J2 _ e2 ⟨cs2, rfl, hr2, rfl⟩
    have e3 := hz.trans e2
    obtain ⟨oq, cq, _, rfl, -⟩ := hr2.open
    refine ⟨(.inr (by intro _ h; first | exact h | exact h.er 0 rfl | exact h.er 1 rfl | exact h.er 2 rfl | exact h.er 3 rfl | exact h.er 4 rfl | exact Mem.le (by assumption) h | exact Mem.le (by assumption) (h.er 0 rfl) | exact Mem.le (by assumption) (h.er 1 rfl) | exact Mem.le (by assumption) (h.er 2 rfl) | exact Mem.le (by assumption) (h.er 3 rfl) | exact h.er 5 rfl | exact h.er 6 rfl)), ?_⟩
    refine d_store 14 rfl (by kernel_rfl) rfl rfl rfl rfl rfl (by first | rfl | (simp only [List.toList_toArray, List.all_cons, List.all_nil, plainCell_buf, Bool.and_true, Bool.true_and] <;> rfl)) (by first | exact u0 | exact u1 | exact u2 | exact u3 | exact u4 | exact u5 | exact u6) (by rfl) .free (.inl (by kernel_rfl)) ?_
    refine d_done (by kernel_rfl) ?_
    refine s_inBlock ?_
    refine o_enter rfl ?_
    refine o_move rfl .free rfl ?_
    refine o_arith rfl rfl rfl (by omega) .free rfl ?_
    refine o_assign rfl .free rfl ?_
    refine o_done ?_
    refine s_env (E' := [(0, .slice oa bs.length c), (3, .pointer (some ⟨b3, 0, none⟩)), (4, .pointer (some ⟨b4, 0, none⟩)), (5, .int .i64 ((k : Int) - 1))]) ⟨rfl, rfl, rfl, rfl, trivial⟩ ?_
    have hd := lets_drop (f := f) (show k < bs.length by omega)
    refine s_mem (fun w hw => ?_) (ih ⟨J2, k, oq, cq⟩ ⟨hle.trans e3, by simp only; omega, by simp only; rw [hd]; exact hr2⟩ (by simp only; omega))
    simp only; rw [hd]; exact hw
  · intro c0
    try simp only [Bool.and_eq_true, Bool.or_eq_true, Bool.not_eq_true', Bool.not_eq_false', Bool.and_eq_false_iff, Bool.or_eq_false_iff, decide_eq_true_eq, decide_eq_false_iff_not] at c0
    obtain rfl : k = 0 := by omega
    rw [List.drop_zero] at hr
    simp only [List.drop_zero]
    refine s_exit rfl ?_
    refine s_seq ?_
    refine o_enter rfl ?_
    refine o_load rfl (loads_ownS (by first | exact m0 | exact m1 | exact m2 | exact m3 | exact m4 | exact m5 | exact m6) (by rfl)) .free rfl ?_
    refine o_store rfl rfl rfl rfl (by first | rfl | (simp only [List.toList_toArray, List.all_cons, List.all_nil, plainCell_buf, Bool.and_true, Bool.true_and] <;> rfl)) (by first | exact u0 | exact u1 | exact u2 | exact u3 | exact u4 | exact u5 | exact u6) (by rfl) .free ?_
    refine o_done ?_
    refine s_ret (.cell rfl (by first | exact loads_still1 (by assumption) rfl | exact loads_ownS (by first | exact m0 | exact m1 | exact m2 | exact m3 | exact m4 | exact m5 | exact m6) (by rfl) | exact loads_own1 (by first | exact m0 | exact m1 | exact m2 | exact m3 | exact m4 | exact m5 | exact m6) (by rfl) rfl | exact loads_stillS (by assumption) (by rfl) | exact loads_stillF (by assumption) (by rfl) rfl) .nil) ?_
    exact ⟨J, L, hle, (by intro _ h; first | exact h | exact dr1 h | exact dr2 h | exact dr3 h | exact dr4 h | exact dr5 h | exact dr6 h), _, rfl, hr, rfl⟩
end Go.Proofs.Yteebkhdnjkchgaa
