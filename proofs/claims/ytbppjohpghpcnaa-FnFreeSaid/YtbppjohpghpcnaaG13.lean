/- What stands free is put, each name once; what is counted. No conditions. -/
import Derived.Test.YtbppjohpghpcnaaG12
namespace Go.Proofs.Ytbppjohpghpcnaa
set_option maxRecDepth 100000
set_option linter.unusedVariables false
set_option linter.unusedSimpArgs false

def nul : Ex := .num [48]
theorem Ex.put0_size : ∀ (e : Ex) (n : Txt), (e.put n nul).size = e.size ∧ (e.put n nul).tree.depth = e.tree.depth
  | .num s, n => ⟨rfl, rfl⟩
  | .name s, n => by simp only [Ex.put]; split <;> exact ⟨rfl, rfl⟩
  | .bin o a b, n => by
    obtain ⟨h1, h2⟩ := a.put0_size n; obtain ⟨g1, g2⟩ := b.put0_size n
    simp only [Ex.put, Ex.size, Ex.tree, Tree.depth, depthL, List.isEmpty_cons, cond_false, h1, h2, g1, g2, and_self]
  | .ite a b c, n => by
    obtain ⟨h1, h2⟩ := a.put0_size n; obtain ⟨g1, g2⟩ := b.put0_size n; obtain ⟨k1, k2⟩ := c.put0_size n
    simp only [Ex.put, Ex.size, Ex.tree, Tree.depth, depthL, List.isEmpty_cons, cond_false, h1, h2, g1, g2, k1, k2, and_self]
  | .lt x a b, n => by
    obtain ⟨h1, h2⟩ := a.put0_size n; obtain ⟨g1, g2⟩ := b.put0_size n
    by_cases hx : x = n <;> simp only [Ex.put, Ex.size, Ex.tree, Tree.depth, depthL, List.isEmpty_cons, cond_false, h1, h2, g1, g2, hx, if_true, if_false, and_self]
  | .fn f x s t b, n => by
    obtain ⟨g1, g2⟩ := b.put0_size n
    by_cases hx : f = n ∨ x = n <;> simp only [Ex.put, Ex.size, Ex.tree, Tree.depth, depthL, List.isEmpty_cons, cond_false, g1, g2, hx, if_true, if_false, and_self]
  | .un o a, n => by
    obtain ⟨h1, h2⟩ := a.put0_size n
    simp only [Ex.put, Ex.size, Ex.tree, Tree.depth, depthL, List.isEmpty_cons, cond_false, h1, h2, and_self]
theorem put0_fine {e : Ex} {n : Txt} (h : e.fine = true) : (e.put n nul).fine = true := by
  obtain ⟨h1, h2⟩ := e.put0_size n
  simp only [Ex.fine, Bool.and_eq_true, decide_eq_true_eq, Tree.fits] at h ⊢
  have hok := Ex.put_ok (n := n) (v := nul) h.1.1 (by decide)
  have hl := Ex.len_size hok
  exact ⟨⟨hok, by omega⟩, by omega, by omega⟩
theorem Ex.put0_occ : ∀ {e : Ex} {n x : Txt}, x ∈ (e.put n nul).occ [] ↔ x ∈ e.occ [] ∧ x ≠ n
  | .num s, n, x => by simp [Ex.put, Ex.occ]
  | .name s, n, x => by
    simp only [Ex.put]
    by_cases h : s = n
    · subst h; simp [Ex.occ, nul]
    · rw [if_neg h]
      simp only [Ex.occ, List.not_mem_nil, if_false, List.mem_singleton]
      constructor
      · rintro rfl; exact ⟨rfl, h⟩
      · exact fun hh => hh.1
  | .bin o a b, n, x => by
    simp only [Ex.put, Ex.occ, List.mem_append, Ex.put0_occ (e := a), Ex.put0_occ (e := b)]
    constructor
    · rintro (⟨h1, h2⟩ | ⟨h1, h2⟩)
      · exact ⟨.inl h1, h2⟩
      · exact ⟨.inr h1, h2⟩
    · rintro ⟨h1 | h1, h2⟩
      · exact .inl ⟨h1, h2⟩
      · exact .inr ⟨h1, h2⟩
  | .ite a b c, n, x => by
    simp only [Ex.put, Ex.occ, List.mem_append, Ex.put0_occ (e := a), Ex.put0_occ (e := b), Ex.put0_occ (e := c)]
    constructor
    · rintro ((⟨h1, h2⟩ | ⟨h1, h2⟩) | ⟨h1, h2⟩)
      · exact ⟨.inl (.inl h1), h2⟩
      · exact ⟨.inl (.inr h1), h2⟩
      · exact ⟨.inr h1, h2⟩
    · rintro ⟨(h1 | h1) | h1, h2⟩
      · exact .inl (.inl ⟨h1, h2⟩)
      · exact .inl (.inr ⟨h1, h2⟩)
      · exact .inr ⟨h1, h2⟩
  | .lt y a b, n, x => by
    simp only [Ex.put, Ex.occ, List.mem_append, List.nil_append, Ex.put0_occ (e := a)]
    rw [Ex.occ_mem (bd := [y]), Ex.occ_mem (e := b) (bd := [y])]
    simp only [List.mem_singleton]
    by_cases h : y = n
    · subst h; rw [if_pos rfl]
      constructor
      · rintro (⟨h1, h2⟩ | ⟨h1, h2⟩)
        · exact ⟨.inl h1, h2⟩
        · exact ⟨.inr ⟨h1, h2⟩, h2⟩
      · rintro ⟨h1 | h1, h2⟩
        · exact .inl ⟨h1, h2⟩
        · exact .inr h1
    · rw [if_neg h, Ex.put0_occ (e := b)]
      constructor
      · rintro (⟨h1, h2⟩ | ⟨⟨h1, h3⟩, h2⟩)
        · exact ⟨.inl h1, h2⟩
        · exact ⟨.inr ⟨h1, h2⟩, h3⟩
      · rintro ⟨h1 | ⟨h1, h3⟩, h2⟩
        · exact .inl ⟨h1, h2⟩
        · exact .inr ⟨⟨h1, h2⟩, h3⟩
  | .fn f y s t b, n, x => by
    simp only [Ex.put, Ex.occ, List.nil_append]
    rw [Ex.occ_mem (bd := [f, y]), Ex.occ_mem (e := b) (bd := [f, y])]
    simp only [List.mem_cons, List.not_mem_nil, or_false, not_or]
    by_cases h : f = n ∨ y = n
    · rw [if_pos h]
      constructor
      · rintro ⟨h1, h2, h3⟩
        refine ⟨⟨h1, h2, h3⟩, ?_⟩
        rcases h with rfl | rfl
        · exact h2
        · exact h3
      · exact fun hh => hh.1
    · rw [if_neg h, Ex.put0_occ (e := b)]
      constructor
      · rintro ⟨⟨h1, h4⟩, h2⟩; exact ⟨⟨h1, h2⟩, h4⟩
      · rintro ⟨⟨h1, h2⟩, h4⟩; exact ⟨⟨h1, h4⟩, h2⟩
  | .un o a, n, x => by
    simp only [Ex.put, Ex.occ, Ex.put0_occ (e := a)]
/-- Nought put for each of these names. -/
def Ex.puts (e : Ex) (l : List Txt) : Ex := l.foldl (fun e n => e.put n nul) e
theorem Ex.puts_next (e : Ex) {l : List Txt} {i : Nat} (hi : i < l.length) : e.puts (l.take (i + 1)) = (e.puts (l.take i)).put (l.getD i []) nul := by
  unfold Ex.puts
  rw [List.take_succ_eq_append_getElem hi, List.foldl_append, show l.getD i [] = l[i] by simp [hi]]; rfl
theorem puts_fine : ∀ {l : List Txt} {e : Ex}, e.fine = true → (e.puts l).fine = true
  | [], e, h => h
  | n :: l, e, h => puts_fine (l := l) (e := e.put n nul) (put0_fine h)
theorem puts_occ {x : Txt} : ∀ {l : List Txt} {e : Ex}, x ∈ (e.puts l).occ [] ↔ x ∈ e.occ [] ∧ x ∉ l
  | [], e => by simp [Ex.puts]
  | n :: l, e => by
    have := puts_occ (x := x) (l := l) (e := e.put n nul)
    rw [show e.puts (n :: l) = (e.put n nul).puts l from rfl, this, Ex.put0_occ]
    simp only [List.mem_cons, not_or]
    exact ⟨fun ⟨⟨a, b⟩, c⟩ => ⟨a, b, c⟩, fun ⟨a, b, c⟩ => ⟨⟨a, b⟩, c⟩⟩
theorem puts_closed {e : Ex} (h : e.fine = true) : (closedOf (e.puts e.free).tree.text).isSome = true := by
  have h1 := exOf_fine (puts_fine (l := e.free) h)
  have h2 : (e.puts e.free).closed = true := by
    unfold Ex.closed
    rw [List.isEmpty_iff]
    refine List.eq_nil_iff_forall_not_mem.2 fun x hx => ?_
    rw [puts_occ] at hx
    exact hx.2 (Ex.free_mem.2 hx.1)
  unfold closedOf
  rw [h1]; simp [h2]
theorem nul_closed : closedOf [48] = some nul := by
  have h1 : exOf [48] = some nul := exOf_fine (e := nul) (by decide)
  unfold closedOf
  rw [h1]; rfl
theorem puts_step {e : Ex} {l : List Txt} {i : Nat} (hi : i < l.length) (h : e.fine = true) (hn : isName (l.getD i []) = true) : putOf (e.puts (l.take i)).tree.text (l.getD i []) [48] = some (e.puts (l.take (i + 1))).tree.text := by
  have h1 := puts_fine (l := l.take i) h
  rw [putOf_some (exOf_fine h1) nul_closed hn, ← Ex.puts_next e hi, if_pos (puts_fine h)]
/-- How often a name stands free. -/
def countOf (s n : Txt) : Int := match exOf s with
  | some e => if isName n = true then (((e.occ []).count n : Nat) : Int) else -1
  | none => -1
theorem countOf_no {s n : Txt} (h : exOf s = none ∨ isName n = false) : countOf s n = -1 := by
  unfold countOf
  rcases h with h | h
  · rw [h]
  · rw [h]; cases exOf s <;> rfl
theorem countOf_some {s n : Txt} {e : Ex} (h : exOf s = some e) (hn : isName n = true) : countOf s n = (((e.occ []).count n : Nat) : Int) := by
  unfold countOf; rw [h]; simp [hn]
theorem count_free {e : Ex} {n : Txt} : 0 < (e.occ []).count n ↔ n ∈ e.free := by
  rw [List.count_pos_iff, Ex.free_mem]
theorem free_take {e : Ex} {i : Nat} (hi : i < e.free.length) : e.free.getD i [] ∉ e.free.take i := by
  have hn := e.free_nodup
  rw [show e.free.getD i [] = e.free[i] by simp [hi]]
  intro hm
  have h := List.take_append_drop i e.free
  rw [List.drop_eq_getElem_cons hi] at h
  rw [← h, List.nodup_append] at hn
  exact hn.2.2 _ hm _ (.head _) rfl
end Go.Proofs.Ytbppjohpghpcnaa


/- How often a name stands free, by the program. No conditions. -/
namespace Go.Proofs.Ytbppjohpghpcnaa
set_option maxRecDepth 100000
set_option linter.unusedVariables false
set_option linter.unusedSimpArgs false

/-- The name that is counted, and the count. -/
def cntOwn (bn bc : Nat) (nm : Txt) (x : Nat) : Own := [(bc, .cells [.int .i64 (x : Nat)].toArray 3 (0, 0)), (bn, .cells [.string (str nm)].toArray 9 (0, 0))]
def cntIs (nm : Txt) (x : Nat) (seen : List Txt) (I : Heap) : Prop := x = seen.count nm
theorem f_ExprCount_1 (bn bc : Nat) (nm : Txt) (x : Nat) (seen : List Txt) (s : Txt) (I : Heap) (L : Own) (hx : cntIs nm x seen I) (hs : isName s = true) (hl : seen.length < 4294967296) :
    Fun Try.prog 28 [.string (str s), .pointer (some ⟨bn, 0, none⟩), .pointer (some ⟨bc, 0, none⟩)] I (cntOwn bn bc nm x ++ L) (fun v I' L' => v = .tuple #[] ∧ ∃ y : Nat, cntIs nm y (seen ++ [s]) I' ∧ L' = cntOwn bn bc nm y ++ L) := by
  unfold cntIs at hx
  have hc := List.count_le_length (a := nm) (l := seen)
  unfold cntOwn
  simp only [List.cons_append, List.nil_append]
  refine fun_intro (by simp) ?_
  refine s_seq ?_
  refine o_enter rfl ?_
  refine o_move rfl .free rfl ?_
  refine o_load rfl (loads_own1 (cs := [.string (str nm)]) m1 (by rfl) (by rfl)) .free rfl ?_
  refine o_cmps rfl rfl rfl .free rfl ?_
  refine o_done ?_
  refine s_cond rfl ?_ ?_
  · intro c0
    try simp only [nb] at c0
    have hy : x + 1 = (seen ++ [s]).count nm := by rw [List.count_append, ← hx, c0]; simp
    refine o_enter rfl ?_
    refine o_load rfl (loads_own1 (cs := [.int .i64 (x : Nat)]) m0 (by rfl) (by rfl)) .free rfl ?_
    refine o_arith rfl rfl rfl (by omega) .free rfl ?_
    refine o_store rfl rfl rfl rfl (by rfl) u0 (by rfl) .free ?_
    refine o_done ?_
    refine s_end .nil ?_
    first
      | exact ⟨I, _, .refl _, fun w h => h, rfl, x + 1, hy, rfl⟩
      | exact ⟨I, _, .refl _, fun w h => h, rfl, x, hy, rfl⟩
  intro c0
  try simp only [nb] at c0
  have hy : x = (seen ++ [s]).count nm := by rw [List.count_append, ← hx]; simp [c0]
  refine s_skip ?_
  refine s_end .nil ?_
  first
    | exact ⟨I, _, .refl _, fun w h => h, rfl, x + 1, hy, rfl⟩
    | exact ⟨I, _, .refl _, fun w h => h, rfl, x, hy, rfl⟩
theorem count_teller (bn bc : Nat) (nm : Txt) : Teller Try.prog 28 [.pointer (some ⟨bn, 0, none⟩), .pointer (some ⟨bc, 0, none⟩)] Nat (cntOwn bn bc nm) (cntIs nm) :=
  ⟨fun x seen s I L hx hs hl => f_ExprCount_1 bn bc nm x seen s I L hx hs hl, fun x seen I I' _ h => h⟩
theorem f_ExprCount (s nm : Txt) (hs : s.length ≤ maxN) (hnl : nm.length ≤ maxN) (I : Heap) (L : Own) : Fun Try.prog 11 [.string (str s), .string (str nm)] I L (fun v I' L' => v = .int .i64 (countOf s nm) ∧ L = L') := by
  have hT := fun bn bc => count_teller bn bc nm
  refine fun_intro (by simp) ?_
  refine s_seq ?_
  refine o_enter rfl ?_
  refine o_box rfl rfl .free rfl ?_
  intro b3
  refine o_assign rfl .free rfl ?_
  refine o_done ?_
  refine s_seq ?_
  refine o_enter rfl ?_
  refine o_move rfl .free rfl ?_
  refine o_call rfl .free rfl (f_readExpr s hs _ _) ?_
  rintro _ J _ hleJ ⟨t, cs, ok, rfl, hrep, rfl, hpf⟩
  obtain ⟨oc, cc, oaf, cf, rfl, hf⟩ := hrep.at'
  refine o_move rfl .free rfl ?_
  refine o_extract rfl rfl .free rfl ?_
  refine o_extract rfl rfl .free rfl ?_
  refine o_alloc .free rfl ?_
  intro b5
  refine o_st rfl rfl rfl rfl .free ?_
  refine o_assign rfl .free rfl ?_
  refine o_done ?_
  refine s_seq ?_
  refine s_seq ?_
  refine o_enter rfl ?_
  refine o_move rfl .free rfl ?_
  refine o_not rfl .free rfl ?_
  refine o_move rfl .free rfl ?_
  apply o_or 15 19 rfl
  · intro g2_3 hk
    try simp only [nb] at g2_3
    refine o_lO1 rfl (.met rfl rfl) rfl ?_
    refine o_call rfl (.met rfl rfl) rfl (f_isName nm hnl _ _) ?_
    rintro _ _ _ _ ⟨rfl, rfl, rfl⟩
    refine o_not rfl (.met rfl rfl) rfl ?_
    refine o_pick_false rfl rfl .free rfl ?_
    exact o_fin 3 rfl rfl hk
  · intro _ hk
    refine o_skips 3 rfl ?_
    refine o_pick_true rfl rfl .free rfl ?_
    exact o_fin 3 rfl rfl hk
  refine o_done ?_
  refine s_cond rfl ?_ ?_
  · intro c0
    try simp only [nb] at c0
    refine s_seq ?_
    refine o_enter rfl ?_
    refine o_assign rfl .free rfl ?_
    refine o_done ?_
    refine s_ret (.tmp rfl .nil) ?_
    refine ⟨J, L, hleJ, (by intro _ h; first | exact h | exact dr1 h | exact dr2 h | exact dr3 h | exact dr4 h | exact dr5 h | exact dr6 h | exact dr6 h.drop | exact dr6 h.drop.drop | exact dr6 h.drop.drop.drop), ?_, rfl⟩
    have : countOf s nm = -1 := by
      rcases c0 with h | h
      · exact countOf_no (.inl (RX_none hpf h))
      · exact countOf_no (.inr h)
    rw [this]; rfl
  intro c0
  try simp only [nb] at c0
  obtain ⟨e, he, rfl, hok, hlen, hfine, htxt⟩ := RX_some hpf c0.1
  have hsz := (exOf_is he).2.2.1
  refine s_skip ?_
  refine s_seq ?_
  refine o_enter rfl ?_
  refine o_alloc .free rfl ?_
  intro b7
  refine o_st rfl rfl rfl rfl .free ?_
  refine o_done ?_
  refine s_seq ?_
  refine o_enter rfl ?_
  refine o_lOS rfl .free rfl ?_
  refine o_makeFunc rfl rfl .free rfl ?_
  refine o_mem (L' := cntOwn b3 b7 nm 0 ++ _) (fun w h => h.perm (List.Perm.cons _ (List.Perm.swap _ _ _))) ?_
  refine o_call rfl .free rfl (f_form_free (hT b3 b7) _ (Nat.lt_succ_self _) hf.rep hok (strs_nil _) (by unfold maxN; simp; omega) 0 [] (by simp; omega) (by simp [cntIs]) _) ?_
  rintro _ J2 _ e2 ⟨rfl, x, hx, rfl⟩
  unfold cntIs at hx
  simp only [cntOwn, List.cons_append, List.nil_append]
  refine o_done ?_
  refine s_seq ?_
  refine o_enter rfl ?_
  refine o_load rfl (loads_own1 (cs := [.int .i64 (x : Nat)]) m0 (by rfl) (by rfl)) .free rfl ?_
  refine o_assign rfl .free rfl ?_
  refine o_done ?_
  refine s_ret (.tmp rfl .nil) ?_
  refine ⟨J2, L, hleJ.trans e2, (by intro _ h; first | exact h | exact dr1 h | exact dr2 h | exact dr3 h | exact dr4 h | exact dr5 h | exact dr6 h | exact dr6 h.drop | exact dr6 h.drop.drop | exact dr6 h.drop.drop.drop), ?_, rfl⟩
  rw [countOf_some he c0.2, hx]; rfl
end Go.Proofs.Ytbppjohpghpcnaa


/- A list's text, a valid environment by the program. No conditions. -/
namespace Go.Proofs.Ytbppjohpghpcnaa
set_option maxRecDepth 100000
set_option linter.unusedVariables false
set_option linter.unusedSimpArgs false

theorem x_hasText {I : Heap} {oa : Option Addr} {l : List Txt} {c : Nat} (h : Strs I oa l c) (s : Txt) (L : Own) :
    Fun Try.prog 10 [.slice oa l.length c, .string (str s)] I L (Only (.bool (decide (s ∈ l))) I L) := by
  have hlen := h.len
  unfold maxN at hlen
  refine fun_intro (by simp) ?_
  refine s_seq ?_
  refine o_enter rfl ?_
  refine o_assign rfl .free rfl ?_
  refine o_done ?_
  refine s_seq ?_
  refine s_seq ?_
  refine o_enter rfl ?_
  refine o_assign rfl .free rfl ?_
  refine o_done ?_
  refine s_block ?_
  refine s_while (X := Nat) (fun i => l.length - i) (fun i => [(0, .slice oa l.length c), (1, .string (str s)), (5, .int .i64 (i : Nat))]) (fun _ => I) (fun _ => L) (fun i => i ≤ l.length ∧ s ∉ l.take i) 0 ⟨by simp, by simp⟩ ⟨rfl, rfl, rfl, trivial⟩ (fun _ h => h) ?_
  rintro i ⟨hi, hs⟩ ih
  refine s_seq ?_
  refine s_seq ?_
  refine o_enter rfl ?_
  refine o_move rfl .free rfl ?_
  refine o_move rfl .free rfl ?_
  refine o_len_slice rfl .free rfl ?_
  refine o_cmp rfl rfl rfl .free rfl ?_
  refine o_done ?_
  first | refine s_if rfl ?_ ?_ | refine s_ifn rfl ?_ ?_ | refine s_cond rfl ?_ ?_
  · intro c0
    obtain ⟨x, hx, hst⟩ := h.at i (by omega)
    refine s_skip ?_
    refine s_seq ?_
    refine s_block ?_
    refine s_seq ?_
    refine o_enter rfl ?_
    refine o_move rfl .free rfl ?_
    refine o_move rfl .free rfl ?_
    refine o_indexAddr' rfl rfl _ rfl (by first | omega | exact lt_of (by assumption) (by decide) | (simp; done) | (simp; omega) | decide | (simp at *; omega)) (by first | rfl | assumption) .free rfl ?_
    refine o_lS rfl .free rfl ?_
    refine o_move rfl .free rfl ?_
    refine o_cmps rfl rfl rfl .free rfl ?_
    refine o_done ?_
    first | refine s_if rfl ?_ ?_ | refine s_ifn rfl ?_ ?_ | refine s_cond rfl ?_ ?_
    · intro c1
      refine s_seq ?_
      refine o_enter rfl ?_
      refine o_assign rfl .free rfl ?_
      refine o_done ?_
      refine s_ret (.tmp rfl .nil) ?_
      refine done_only rfl (by intro _ h; first | exact h | exact dr1 h | exact dr2 h | exact dr3 h | exact dr4 h | exact dr5 h | exact dr6 h | exact dr6 h.drop | exact dr6 h.drop.drop | exact dr6 h.drop.drop.drop) ?_
      have : s ∈ l := by have h2 := List.getElem_mem (show i < l.length by omega); rwa [c1] at h2
      simp [retOne, this]
    intro c1
    refine s_skip ?_
    refine s_inBlock ?_
    refine o_enter rfl ?_
    refine o_move rfl .free rfl ?_
    refine o_arith rfl rfl rfl (by omega) .free rfl ?_
    refine o_assign rfl .free rfl ?_
    refine o_done ?_
    refine s_env (E' := [(0, .slice oa l.length c), (1, .string (str s)), (5, .int .i64 ((i + 1 : Nat)))]) ⟨rfl, rfl, rfl, trivial⟩ (ih (i + 1) ⟨by omega, ?_⟩ (by omega))
    rw [List.take_succ_eq_append_getElem (by omega), List.mem_append]
    rintro (h1 | h1)
    · exact hs h1
    · exact c1 (List.mem_singleton.1 h1).symm
  intro c0
  refine s_exit rfl ?_
  refine s_seq ?_
  refine o_enter rfl ?_
  refine o_assign rfl .free rfl ?_
  refine o_done ?_
  refine s_ret (.tmp rfl .nil) ?_
  refine done_only rfl (by intro _ h; first | exact h | exact dr1 h | exact dr2 h | exact dr3 h | exact dr4 h | exact dr5 h | exact dr6 h | exact dr6 h.drop | exact dr6 h.drop.drop | exact dr6 h.drop.drop.drop) ?_
  have : s ∉ l := by rwa [List.take_of_length_le (by omega)] at hs
  simp [retOne, this]

end Go.Proofs.Ytbppjohpghpcnaa


/- The walk of the statement 'FnFree'. No conditions. -/
namespace Go.Proofs.Ytbppjohpghpcnaa
set_option maxRecDepth 100000
set_option linter.unusedVariables false
set_option linter.unusedSimpArgs false

theorem addr_zero (x : Addr) : x.add 0 = x := by
  cases x with
  | mk a b c => cases c <;> simp [Addr.add]
theorem Strs.take {I : Heap} {oa : Option Addr} {l : List Txt} {c : Nat} (h : Strs I oa l c) (i : Nat) (hi : i ≤ l.length) : Strs I oa (l.take i) c := by
  refine ⟨fun x hx => ?_, fun e => ?_, ?_, ?_, fun s hs => h.each s (List.mem_of_mem_take hs)⟩
  · have h1 := h.still x hx
    have h2 := h1.part 0 (us := (l.take i).map sv) (by
      intro j hj
      simp only [List.length_map, List.length_take] at hj
      simp [show j < l.length by omega])
    rwa [addr_zero] at h2
  · rw [h.nil e]; simp
  · have := h.cap; simp; omega
  · have := h.len; simp; omega
theorem law_FnFree {I : Heap} {oa : Option Addr} {code : List UInt8} {c : Nat} (h : Bytes I oa code c) (L : Own) : Fun Try.prog 3 [.slice oa code.length c] I L (YES L) := by
  have hlen := h.len
  refine fun_intro (by simp) ?_
  refine s_seq ?_
  refine o_enter rfl ?_
  refine o_assign rfl .free rfl ?_
  refine o_done ?_
  refine s_seq ?_
  refine s_seq ?_
  refine o_enter rfl ?_
  refine o_move rfl .free rfl ?_
  refine o_len_slice rfl .free rfl ?_
  refine o_cmp rfl rfl rfl .free rfl ?_
  refine o_done ?_
  refine s_cond rfl ?_ ?_
  · intro c0
    try simp only [nb] at c0
    refine s_seq ?_
    refine o_enter rfl ?_
    refine o_assign rfl .free rfl ?_
    refine o_done ?_
    refine s_ret (.tmp rfl .nil) ?_
    exact ⟨I, L, .refl _, fun _ h => h, rfl, rfl⟩
  intro c0
  try simp only [nb] at c0
  refine s_skip ?_
  refine s_seq ?_
  refine o_enter rfl ?_
  refine o_move rfl .free rfl ?_
  refine o_call rfl .free rfl (g_DrawExprFree h _) ?_
  rintro _ J1 _ e1 ⟨s, rfl, hsl, rfl⟩
  have hs : s.length ≤ maxN := by unfold maxN; omega
  refine o_assign rfl .free rfl ?_
  refine o_done ?_
  refine s_seq ?_
  refine o_enter rfl ?_
  refine o_move rfl .free rfl ?_
  refine o_call rfl .free rfl (f_ExprFree s hs _ _) ?_
  rintro _ J2 _ e2 ⟨of, cf, rfl, hfS, rfl⟩
  refine o_move rfl .free rfl ?_
  refine o_extract rfl rfl .free rfl ?_
  refine o_extract rfl rfl .free rfl ?_
  refine o_assign rfl .free rfl ?_
  refine o_assign rfl .free rfl ?_
  refine o_done ?_
  refine s_seq ?_
  refine o_enter rfl ?_
  refine o_move rfl .free rfl ?_
  refine o_call rfl .free rfl (g_ExprFree s (maxN_maxL hs) _ _) ?_
  rintro _ J3 _ e3 ⟨of2, cf2, rfl, hf2, rfl⟩
  have hfS := hfS.mono e3
  have hle := (e1.trans e2).trans e3
  refine o_move rfl .free rfl ?_
  refine o_extract rfl rfl .free rfl ?_
  refine o_extract rfl rfl .free rfl ?_
  refine o_assign rfl .free rfl ?_
  refine o_assign rfl .free rfl ?_
  refine o_done ?_
  refine s_seq ?_
  refine s_seq ?_
  refine o_enter rfl ?_
  refine o_move rfl .free rfl ?_
  refine o_move rfl .free rfl ?_
  refine o_cmpb rfl rfl rfl .free rfl ?_
  refine o_move rfl .free rfl ?_
  apply o_or 34 39 rfl
  · intro g6_4 hk
    try simp only [nb] at g6_4
    refine o_move rfl (.met rfl rfl) rfl ?_
    refine o_move rfl (.met rfl rfl) rfl ?_
    refine o_call rfl (.met rfl rfl) rfl (x_sameTexts hfS hf2 _) ?_
    rintro _ _ _ _ ⟨rfl, rfl, rfl⟩
    refine o_not rfl (.met rfl rfl) rfl ?_
    refine o_pick_false rfl rfl .free rfl ?_
    exact o_fin 4 rfl rfl hk
  · intro _ hk
    refine o_skips 4 rfl ?_
    refine o_pick_true rfl rfl .free rfl ?_
    exact o_fin 4 rfl rfl hk
  refine o_move rfl .free rfl ?_
  apply o_or 40 43 rfl
  · intro g6_10 hk
    try simp only [nb] at g6_10
    refine o_move rfl (.met rfl rfl) rfl ?_
    refine o_not rfl (.met rfl rfl) rfl ?_
    refine o_pick_false rfl rfl .free rfl ?_
    exact o_fin 2 rfl rfl hk
  · intro _ hk
    refine o_skips 2 rfl ?_
    refine o_pick_true rfl rfl .free rfl ?_
    exact o_fin 2 rfl rfl hk
  refine o_done ?_
  refine s_cond rfl ?_ ?_
  · intro c1
    try simp only [nb] at c1
    refine s_seq ?_
    refine o_enter rfl ?_
    refine o_move rfl .free rfl ?_
    refine o_move rfl .free rfl ?_
    refine o_cmpb rfl rfl rfl .free rfl ?_
    refine o_move rfl .free rfl ?_
    apply o_and 47 51 rfl
    · intro g7_4 hk
      try simp only [nb] at g7_4
      refine o_move rfl (.met rfl rfl) rfl ?_
      refine o_move rfl (.met rfl rfl) rfl ?_
      refine o_call rfl (.met rfl rfl) rfl (x_sameTexts hfS hf2 _) ?_
      rintro _ _ _ _ ⟨rfl, rfl, rfl⟩
      refine o_pick_true rfl rfl .free rfl ?_
      exact o_fin 3 rfl rfl hk
    · intro _ hk
      refine o_skips 3 rfl ?_
      refine o_pick_false rfl rfl .free rfl ?_
      exact o_fin 3 rfl rfl hk
    refine o_assign rfl .free rfl ?_
    refine o_done ?_
    refine s_ret (.tmp rfl .nil) ?_
    refine ⟨J3, L, hle, (by intro _ h; first | exact h | exact dr1 h | exact dr2 h | exact dr3 h | exact dr4 h | exact dr5 h | exact dr6 h | exact dr6 h.drop | exact dr6 h.drop.drop | exact dr6 h.drop.drop.drop), ?_, rfl⟩
    simp [retOne]
  intro c1
  try simp only [nb] at c1
  obtain ⟨fl, hfl⟩ : ∃ fl, freeOf s = some fl := Option.isSome_iff_exists.1 (by simpa using c1)
  obtain ⟨e, he⟩ : ∃ e, exOf s = some e := by
    cases he : exOf s with
    | none => unfold freeOf at hfl; rw [he] at hfl; cases hfl
    | some e => exact ⟨e, rfl⟩
  obtain ⟨hfine, hok, hsz, hln, htx⟩ := exOf_is he
  have hfo := freeOf_some he
  clear c1
  rw [hfo] at hfS
  rw [hfo]
  simp only [Option.getD_some, Option.isSome_some] at hfS ⊢
  have hfl := hfS.len
  unfold maxN at hfl
  have hps := parse_ex he
  obtain ⟨al, hal⟩ : ∃ al, atomsOf s = some al := ⟨_, by unfold atomsOf; rw [hps]; rfl⟩
  have hname : ∀ i, i < e.free.length → isName (e.free.getD i []) = true := fun i hi => by
    rw [show e.free.getD i [] = e.free[i] by simp [hi]]
    exact Ex.occ_name hok _ (Ex.free_mem.1 (List.getElem_mem hi))
  have hpl : ∀ l, (e.puts l).tree.text.length ≤ maxN := fun l => by
    have h1 := (exOf_is (exOf_fine (puts_fine (l := l) hfine))).2.2.2.1
    rw [Tree.text_len]; unfold maxN; omega
  refine s_skip ?_
  refine s_seq ?_
  refine o_enter rfl ?_
  refine o_move rfl .free rfl ?_
  refine o_call rfl .free rfl (f_FormAtoms s hs _ _) ?_
  rintro _ J4 _ e4 ⟨oa, ca, rfl, haS, rfl⟩
  rw [hal] at haS
  rw [hal]
  simp only [Option.getD_some, Option.isSome_some] at haS ⊢
  have hfS := hfS.mono e4
  have hle := hle.trans e4
  have hall := haS.len
  unfold maxN at hall
  have hx0 : s = (e.puts (e.free.take 0)).tree.text := htx
  refine o_move rfl .free rfl ?_
  refine o_extract rfl rfl .free rfl ?_
  refine o_extract rfl rfl .free rfl ?_
  refine o_assign rfl .free rfl ?_
  refine o_assign rfl .free rfl ?_
  refine o_done ?_
  refine s_seq ?_
  refine o_enter rfl ?_
  refine o_move rfl .free rfl ?_
  refine o_assign rfl .free rfl ?_
  refine o_done ?_
  refine s_seq ?_
  refine s_seq ?_
  refine o_enter rfl ?_
  refine o_assign rfl .free rfl ?_
  refine o_done ?_
  refine s_block ?_
  refine s_while (X := GM) (fun x => e.free.length - x.i) (fun x => [(3, .string (str s)), (4, .slice of e.free.length cf), (8, .slice oa al.length ca), (9, .bool true), (10, .string (str (e.puts (e.free.take x.i)).tree.text)), (11, .int .i64 (x.i : Nat))]) (fun x => x.J) (fun _ => L) (fun x => x.i ≤ e.free.length ∧ HLe J4 x.J) ⟨0, J4⟩ ⟨Nat.zero_le _, .refl _⟩ ⟨rfl, rfl, rfl, rfl, by rw [← hx0]; rfl, rfl, trivial⟩ (by intro _ h; exact h) ?_
  rintro ⟨i, J⟩ ⟨hi, ez⟩ ih
  simp only at hi ez ih ⊢
  have hfS := hfS.mono ez
  have haS := haS.mono ez
  have hle := hle.trans ez
  refine s_seq ?_
  refine s_seq ?_
  refine o_enter rfl ?_
  refine o_move rfl .free rfl ?_
  refine o_move rfl .free rfl ?_
  refine o_len_slice rfl .free rfl ?_
  refine o_cmp rfl rfl rfl .free rfl ?_
  refine o_done ?_
  refine s_cond rfl ?_ ?_
  · intro c2
    try simp only [nb] at c2
    have hi1 : i < e.free.length := by omega
    have hst := hfS.st i hi1
    have hstep := puts_step hi1 hfine (hname i hi1)
    have hnl := Ex.name_len (hname i hi1)
    refine s_skip ?_
    refine s_seq ?_
    refine s_block ?_
    refine s_seq ?_
    refine o_enter rfl ?_
    iterate 3 refine o_move rfl .free rfl ?_
    first | refine o_ixD rfl rfl _ rfl .free rfl ?_ | refine o_ixP rfl rfl _ rfl .free rfl ?_
    refine o_lI1 rfl .free rfl ?_
    refine o_call rfl .free rfl (f_ExprPut (e.puts (e.free.take i)).tree.text (e.free.getD i []) [48] (hpl _) hnl (by decide) _ _) ?_
    rw [hstep]; rintro _ J5 _ e5 ⟨rfl, rfl⟩
    simp only [Option.getD_some, Option.isSome_some]
    have hfS := hfS.mono e5
    have hst := hst.mono e5
    have hcap := hfS.cap
    have hcon : Fun Try.prog 10 [.slice (if cf = 0 then of else Option.map (fun x => x.add (0 * 1)) of) (i - 0) (cf - 0), .string (str (e.free.getD i []))] J5 L (Only (.bool (decide (e.free.getD i [] ∈ e.free.take i))) J5 L) := by
      have h1 := x_hasText (hfS.take i (by omega)) (e.free.getD i []) L
      rw [List.length_take, Nat.min_eq_left (by omega)] at h1
      have h2 : (if cf = 0 then of else Option.map (fun x => x.add (0 * 1)) of) = of := by
        cases of with
        | none => simp
        | some x => simp [addr_zero]
      rw [h2]; exact h1
    have hft := free_take hi1
    refine o_move rfl .free rfl ?_
    refine o_extract rfl rfl .free rfl ?_
    refine o_extract rfl rfl .free rfl ?_
    refine o_assign rfl .free rfl ?_
    refine o_assign rfl .free rfl ?_
    refine o_done ?_
    refine s_seq ?_
    refine s_seq ?_
    refine d_all 12 rfl rfl ?_
    refine d_takeA 0 rfl (by kernel_rfl) rfl (.inr heldx) (y_move rfl) .free rfl ?_
    refine d_takeA 1 rfl (by kernel_rfl) rfl (.inr heldx) (y_not rfl) .free rfl ?_
    refine d_takeA 2 rfl (by kernel_rfl) rfl (.inr heldx) (y_move rfl) .free rfl ?_
    apply d_or 75 84 rfl
    · intro g14_3 hk
      try simp only [nb] at g14_3
      refine d_takeA 3 rfl (by kernel_rfl) rfl (.inr heldx) (y_move rfl) (.met rfl rfl) rfl ?_
      refine d_takeA 4 rfl (by kernel_rfl) rfl (.inr heldx) (y_move rfl) (.met rfl rfl) rfl ?_
      refine d_takeA 5 rfl (by kernel_rfl) rfl (.inr heldx) (y_slice_slice rfl rfl rfl 0 _ rfl rfl (by first | omega | exact lt_of (by assumption) (by decide) | (simp; done) | (simp; omega) | decide | (simp at *; omega))) (.met rfl rfl) rfl ?_
      refine d_takeA 6 rfl (by kernel_rfl) rfl (.inr heldx) (y_move rfl) (.met rfl rfl) rfl ?_
      refine d_takeA 7 rfl (by kernel_rfl) rfl (.inr heldx) (y_move rfl) (.met rfl rfl) rfl ?_
      first | refine d_takeA 8 rfl (by kernel_rfl) rfl (.inr heldx) (y_ixD rfl rfl _ rfl) (.met rfl rfl) rfl ?_ | refine d_takeA 8 rfl (by kernel_rfl) rfl (.inr heldx) (y_ixP rfl rfl _ rfl) (.met rfl rfl) rfl ?_
      refine d_take 9 [12] rfl (by kernel_rfl) rfl heldx (y_lI1 rfl) (.met rfl rfl) rfl ?_
      refine d_call 10 rfl (by kernel_rfl) rfl rfl (.met rfl rfl) rfl hcon ?_
      rintro _ _ _ _ ⟨rfl, rfl, rfl⟩
      refine ⟨(.inr heldx), ?_⟩
      refine d_takeA 11 rfl (by kernel_rfl) rfl (.inr heldx) (y_pick_false rfl rfl) .free rfl ?_
      exact d_fin 8 rfl rfl hk
    · intro _ hk
      refine d_takeskip 3 rfl (by kernel_rfl) rfl (.inr heldx) rfl rfl rfl ?_
      refine d_takeskip 4 rfl (by kernel_rfl) rfl (.inr heldx) rfl rfl rfl ?_
      refine d_takeskip 5 rfl (by kernel_rfl) rfl (.inr heldx) rfl rfl rfl ?_
      refine d_takeskip 6 rfl (by kernel_rfl) rfl (.inr heldx) rfl rfl rfl ?_
      refine d_takeskip 7 rfl (by kernel_rfl) rfl (.inr heldx) rfl rfl rfl ?_
      refine d_takeskip 8 rfl (by kernel_rfl) rfl (.inr heldx) rfl rfl rfl ?_
      refine d_takeskip 9 rfl (by kernel_rfl) rfl (.inr heldx) rfl rfl rfl ?_
      refine d_takeskip 10 rfl (by kernel_rfl) rfl (.inr heldx) rfl rfl rfl ?_
      refine d_takeA 11 rfl (by kernel_rfl) rfl (.inr heldx) (y_pick_true rfl rfl) .free rfl ?_
      exact d_fin 8 rfl rfl hk
    refine d_done (by kernel_rfl) ?_
    first | refine s_fp rfl (by simp only [hft]; simp) ?_ | refine s_fn rfl (by simp only [hft]; simp) ?_ | refine s_false (by simp [look, opd, *]) ?_
    refine s_skip ?_
    refine o_enter rfl ?_
    refine o_move rfl .free rfl ?_
    refine o_assign rfl .free rfl ?_
    refine o_done ?_
    refine s_inBlock ?_
    refine o_enter rfl ?_
    refine o_move rfl .free rfl ?_
    refine o_arith rfl rfl rfl (by omega) .free rfl ?_
    refine o_assign rfl .free rfl ?_
    refine o_done ?_
    refine s_env (E' := [(3, .string (str s)), (4, .slice of e.free.length cf), (8, .slice oa al.length ca), (9, .bool true), (10, .string (str (e.puts (e.free.take (i + 1))).tree.text)), (11, .int .i64 ((i + 1 : Nat)))]) ⟨rfl, rfl, rfl, rfl, rfl, rfl, trivial⟩ (ih ⟨i + 1, J5⟩ ⟨by simp only; omega, ez.trans e5⟩ (by simp only; omega))
  intro c2
  try simp only [nb] at c2
  obtain rfl : i = e.free.length := by omega
  rw [List.take_length]
  refine s_exit rfl ?_
  refine s_seq ?_
  refine s_seq ?_
  refine o_enter rfl ?_
  refine o_assign rfl .free rfl ?_
  refine o_done ?_
  refine s_block ?_
  refine s_while (X := GM) (fun x => al.length - x.i) (fun x => [(3, .string (str s)), (4, .slice of e.free.length cf), (8, .slice oa al.length ca), (9, .bool true), (10, .string (str (e.puts e.free).tree.text)), (14, .int .i64 (x.i : Nat))]) (fun x => x.J) (fun _ => L) (fun x => x.i ≤ al.length ∧ HLe J x.J) ⟨0, J⟩ ⟨Nat.zero_le _, .refl _⟩ ⟨rfl, rfl, rfl, rfl, rfl, rfl, trivial⟩ (by intro _ h; exact h) ?_
  rintro ⟨j, J6⟩ ⟨hj, e6⟩ ih2
  simp only at hj e6 ih2 ⊢
  have hfS := hfS.mono e6
  have haS := haS.mono e6
  have hle := hle.trans e6
  refine s_seq ?_
  refine s_seq ?_
  refine o_enter rfl ?_
  refine o_move rfl .free rfl ?_
  refine o_move rfl .free rfl ?_
  refine o_len_slice rfl .free rfl ?_
  refine o_cmp rfl rfl rfl .free rfl ?_
  refine o_done ?_
  refine s_cond rfl ?_ ?_
  · intro c4
    try simp only [nb] at c4
    have hj1 : j < al.length := by omega
    have hst := haS.st j hj1
    have hel : (al.getD j []).length ≤ maxN := by rw [show al.getD j [] = al[j] by simp [hj1]]; exact haS.each _ (List.getElem_mem _)
    refine s_skip ?_
    refine s_seq ?_
    refine s_block ?_
    refine s_seq ?_
    refine o_enter rfl ?_
    iterate 3 refine o_move rfl .free rfl ?_
    first | refine o_ixD rfl rfl _ rfl .free rfl ?_ | refine o_ixP rfl rfl _ rfl .free rfl ?_
    refine o_lI1 rfl .free rfl ?_
    refine o_call rfl .free rfl (f_ExprCount s (al.getD j []) hs hel _ _) ?_
    rintro _ J7 _ e7 ⟨rfl, rfl⟩
    have hfS := hfS.mono e7
    have haS := haS.mono e7
    have hst := hst.mono e7
    refine o_assign rfl .free rfl ?_
    refine o_done ?_
    refine s_seq ?_
    refine o_enter rfl ?_
    refine o_move rfl .free rfl ?_
    refine o_cmp rfl rfl rfl .free rfl ?_
    refine o_move rfl .free rfl ?_
    apply o_and 100 110 rfl
    · intro g21_3 hk
      try simp only [nb] at g21_3
      refine o_move rfl (.met rfl rfl) rfl ?_
      refine o_cmp rfl rfl rfl (.met rfl rfl) rfl ?_
      iterate 3 refine o_move rfl (.met rfl rfl) rfl ?_
      first | refine o_ixD rfl rfl _ rfl (.met rfl rfl) rfl ?_ | refine o_ixP rfl rfl _ rfl (.met rfl rfl) rfl ?_
      refine o_lI1 rfl (.met rfl rfl) rfl ?_
      refine o_call rfl (.met rfl rfl) rfl (x_hasText hfS (al.getD j []) _) ?_
      rintro _ _ _ _ ⟨rfl, rfl, rfl⟩
      refine o_cmpb rfl rfl rfl (.met rfl rfl) rfl ?_
      refine o_pick_true rfl rfl .free rfl ?_
      exact o_fin 9 rfl rfl hk
    · intro _ hk
      refine o_skips 9 rfl ?_
      refine o_pick_false rfl rfl .free rfl ?_
      exact o_fin 9 rfl rfl hk
    refine o_done ?_
    refine s_cond rfl ?_ ?_
    · intro c5
      try simp only [nb] at c5
      refine s_seq ?_
      refine o_enter rfl ?_
      refine o_assign rfl .free rfl ?_
      refine o_done ?_
      refine s_ret (.tmp rfl .nil) ?_
      exfalso
      cases hn : isName (al.getD j []) with
      | false => rw [countOf_no (.inr hn)] at c5; simp at c5
      | true =>
        rw [countOf_some he hn] at c5
        have := count_free (e := e) (n := al.getD j [])
        simp_all
    intro c5
    try simp only [nb] at c5
    refine s_skip ?_
    refine s_inBlock ?_
    refine o_enter rfl ?_
    refine o_move rfl .free rfl ?_
    refine o_arith rfl rfl rfl (by omega) .free rfl ?_
    refine o_assign rfl .free rfl ?_
    refine o_done ?_
    refine s_env (E' := [(3, .string (str s)), (4, .slice of e.free.length cf), (8, .slice oa al.length ca), (9, .bool true), (10, .string (str (e.puts e.free).tree.text)), (14, .int .i64 ((j + 1 : Nat)))]) ⟨rfl, rfl, rfl, rfl, rfl, rfl, trivial⟩ (ih2 ⟨j + 1, J7⟩ ⟨by simp only; omega, e6.trans e7⟩ (by simp only; omega))
  intro c4
  try simp only [nb] at c4
  refine s_exit rfl ?_
  refine s_seq ?_
  refine o_enter rfl ?_
  refine o_move rfl .free rfl ?_
  refine o_move rfl .free rfl ?_
  apply o_and 112 115 rfl
  · intro g23_2 hk
    try simp only [nb] at g23_2
    refine o_move rfl (.met rfl rfl) rfl ?_
    refine o_call rfl (.met rfl rfl) rfl (f_ExprClosed (e.puts e.free).tree.text (hpl _) _ _) ?_
    rintro _ _ _ _ ⟨rfl, rfl, rfl⟩
    refine o_pick_true rfl rfl .free rfl ?_
    exact o_fin 2 rfl rfl hk
  · intro _ hk
    refine o_skips 2 rfl ?_
    refine o_pick_false rfl rfl .free rfl ?_
    exact o_fin 2 rfl rfl hk
  refine o_assign rfl .free rfl ?_
  refine o_done ?_
  refine s_ret (.tmp rfl .nil) ?_
  refine ⟨J6, L, hle, (by intro _ h; first | exact h | exact dr1 h | exact dr2 h | exact dr3 h | exact dr4 h | exact dr5 h | exact dr6 h | exact dr6 h.drop | exact dr6 h.drop.drop | exact dr6 h.drop.drop.drop), ?_, rfl⟩
  simp [retOne, puts_closed hfine]
end Go.Proofs.Ytbppjohpghpcnaa
