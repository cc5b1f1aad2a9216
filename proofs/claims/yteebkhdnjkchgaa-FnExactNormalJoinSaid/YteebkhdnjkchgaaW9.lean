
/- What the statements' own helpers compute: sizes, copies and comparisons of lists of texts. No conditions. -/
import Derived.Test.YteebkhdnjkchgaaW8
import Derived.Test.YteebkhdnjkchgaaOps3
namespace Go.Proofs.Yteebkhdnjkchgaa
set_option maxRecDepth 100000
set_option linter.unusedVariables false
set_option linter.unusedSimpArgs false

/-- A list of texts as it comes in: no bound but the machine's. -/
structure Raw (I : Heap) (oa : Option Addr) (l : List Txt) (c : Nat) : Prop where
  still : ∀ x, oa = some x → Still I x (l.map sv)
  nil : oa = none → l = []
  cap : l.length ≤ c
  len : l.length ≤ 9223372036854775807
  each : ∀ s ∈ l, s.length ≤ 9223372036854775807
theorem Raw.at {I : Heap} {oa : Option Addr} {l : List Txt} {c : Nat} (h : Raw I oa l c) (i : Nat) (hi : i < l.length) : ∃ x, oa = some x ∧ Still I (x.add (i * 1)) [.string (str l[i])] := by
  cases oa with
  | none => have := h.nil rfl; subst this; simp at hi
  | some x =>
    refine ⟨x, rfl, (h.still x rfl).part (i * 1) ?_⟩
    intro j hj
    obtain rfl : j = 0 := by simpa using hj
    simp [hi, sv]

def SZ (left : Nat) (l : List Txt) (I : Heap) (L : Own) : Post := fun v I' L' => ∃ r : Int, v = .int .i64 r ∧ I = I' ∧ L = L' ∧ r ≤ left ∧ (0 ≤ r → l.length ≤ left ∧ ∀ s ∈ l, s.length ≤ left)
theorem x_szStringS {I : Heap} {oa : Option Addr} {l : List Txt} {c : Nat} (h : Raw I oa l c) (left : Nat) (hl : left ≤ 4294967296) (L : Own) :
    Fun Try.prog 4 [.slice oa l.length c, .int .i64 (left : Nat)] I L (SZ left l I L) := by
  have hlen := h.len
  refine fun_intro (by simp) ?_
  refine s_seq ?_
  refine o_enter rfl ?_
  refine o_assign rfl .free rfl ?_
  refine o_done ?_
  refine s_seq ?_
  refine o_enter rfl ?_
  refine o_move rfl .free rfl ?_
  refine o_move rfl .free rfl ?_
  refine o_len_slice rfl .free rfl ?_
  refine o_arith rfl rfl rfl (by omega) .free rfl ?_
  refine o_assign rfl .free rfl ?_
  refine o_done ?_
  refine s_seq ?_
  refine s_seq ?_
  refine o_enter rfl ?_
  refine o_move rfl .free rfl ?_
  refine o_cmp rfl rfl rfl .free rfl ?_
  refine o_done ?_
  first | refine s_if rfl ?_ ?_ | refine s_ifn rfl ?_ ?_ | refine s_cond rfl ?_ ?_
  · intro c0
    refine s_seq ?_
    refine o_enter rfl ?_
    refine o_assign rfl .free rfl ?_
    refine o_done ?_
    refine s_ret (.tmp rfl .nil) ?_
    exact ⟨I, L, .refl _, fun _ h => h, -1, rfl, rfl, rfl, by omega, by intro h; omega⟩
  · intro c0
    refine s_skip ?_
    refine s_seq ?_
    refine s_seq ?_
    refine o_enter rfl ?_
    refine o_assign rfl .free rfl ?_
    refine o_done ?_
    refine s_block ?_
    refine s_put (t := 1) (v' := .int .i64 ((left - l.length : Nat))) rfl (by congr 1; omega) ?_
    refine s_while (X := Nat × Nat) (fun x => l.length - x.1) (fun x => [(0, .slice oa l.length c), (1, .int .i64 (x.2 : Nat)), (5, .int .i64 (x.1 : Nat))]) (fun _ => I) (fun _ => L) (fun x => x.1 ≤ l.length ∧ x.2 + l.length ≤ left ∧ ∀ s ∈ l.take x.1, s.length ≤ left) (0, left - l.length) ⟨by simp, by simp only; omega, by simp⟩ ⟨rfl, rfl, rfl, trivial⟩ (fun _ h => h) ?_
    rintro ⟨i, r⟩ ⟨hi, hr, hs⟩ ih
    simp only at hi hr hs ih
    refine s_seq ?_
    refine s_seq ?_
    refine o_enter rfl ?_
    refine o_move rfl .free rfl ?_
    refine o_move rfl .free rfl ?_
    refine o_len_slice rfl .free rfl ?_
    refine o_cmp rfl rfl rfl .free rfl ?_
    refine o_done ?_
    first | refine s_if rfl ?_ ?_ | refine s_ifn rfl ?_ ?_ | refine s_cond rfl ?_ ?_
    · intro c1
      obtain ⟨x, hx, hst⟩ := h.at i (by omega)
      have hei := h.each _ (List.getElem_mem (show i < l.length by omega))
      refine s_skip ?_
      refine s_seq ?_
      refine s_block ?_
      refine s_seq ?_
      refine o_enter rfl ?_
      iterate 3 refine o_move rfl .free rfl ?_
      refine o_indexAddr' rfl rfl _ rfl (by first | omega | exact lt_of (by assumption) (by decide) | (simp; done) | (simp; omega) | decide | (simp at *; omega)) (by first | rfl | assumption) .free rfl ?_
      refine o_load rfl (by first | exact loads_still1 (by assumption) rfl | exact loads_ownS (by first | exact m0 | exact m1 | exact m2 | exact m3 | exact m4 | exact m5 | exact m6) (by rfl) | exact loads_own1 (by first | exact m0 | exact m1 | exact m2 | exact m3 | exact m4 | exact m5 | exact m6) (by rfl) rfl | exact loads_stillS (by assumption) (by rfl) | exact loads_stillF (by assumption) (by rfl) rfl) .free rfl ?_
      refine o_len_str rfl .free rfl ?_
      refine o_arith rfl rfl rfl (by omega) .free rfl ?_
      refine o_assign rfl .free rfl ?_
      refine o_done ?_
      refine s_seq ?_
      refine o_enter rfl ?_
      refine o_move rfl .free rfl ?_
      refine o_cmp rfl rfl rfl .free rfl ?_
      refine o_done ?_
      first | refine s_if rfl ?_ ?_ | refine s_ifn rfl ?_ ?_ | refine s_cond rfl ?_ ?_
      · intro c2
        refine s_seq ?_
        refine o_enter rfl ?_
        refine o_assign rfl .free rfl ?_
        refine o_done ?_
        refine s_ret (.tmp rfl .nil) ?_
        exact ⟨I, L, .refl _, fun _ h => h, -1, rfl, rfl, rfl, by omega, by intro h; omega⟩
      · intro c2
        refine s_skip ?_
        refine s_inBlock ?_
        refine o_enter rfl ?_
        refine o_move rfl .free rfl ?_
        refine o_arith rfl rfl rfl (by omega) .free rfl ?_
        refine o_assign rfl .free rfl ?_
        refine o_done ?_
        refine s_put (t := 1) (v' := .int .i64 ((r - l[i].length : Nat))) rfl (by congr 1; omega) ?_
        refine s_env (E' := [(0, .slice oa l.length c), (1, .int .i64 ((r - l[i].length : Nat))), (5, .int .i64 ((i + 1 : Nat)))]) ⟨rfl, rfl, rfl, trivial⟩ (ih (i + 1, r - l[i].length) ⟨by simp only; omega, by simp only; omega, ?_⟩ (by simp only; omega))
        intro s hsm
        simp only at hsm
        rw [List.take_succ_eq_append_getElem (by omega), List.mem_append] at hsm
        rcases hsm with hsm | hsm
        · exact hs s hsm
        · obtain rfl : s = l[i] := by simpa using hsm
          omega
    · intro c1
      refine s_exit rfl ?_
      refine s_seq ?_
      refine o_enter rfl ?_
      refine o_move rfl .free rfl ?_
      refine o_assign rfl .free rfl ?_
      refine o_done ?_
      refine s_ret (.tmp rfl .nil) ?_
      obtain rfl : i = l.length := by simp only at c1; omega
      exact ⟨I, L, .refl _, fun _ h => h, r, rfl, rfl, rfl, by omega, fun _ => ⟨by omega, by simpa using hs⟩⟩

def TS (l : List Txt) (L : Own) : Post := fun v I' L' => ∃ x, v = .slice (some x) l.length l.length ∧ Strs I' (some x) l l.length ∧ L = L'
theorem x_toStringS {I : Heap} {oa : Option Addr} {l : List Txt} {c : Nat} (h : Strs I oa l c) (L : Own) :
    Fun Try.prog 6 [.slice oa l.length c] I L (TS l L) := by
  have hlen := h.len
  unfold maxN at hlen
  refine fun_intro (by simp) ?_
  refine s_seq ?_
  refine o_enter rfl ?_
  refine o_assign rfl .free rfl ?_
  refine o_done ?_
  refine s_seq ?_
  refine o_enter rfl ?_
  refine o_move rfl .free rfl ?_
  refine o_len_slice rfl .free rfl ?_
  refine o_make rfl rfl (by omega) (by omega) .free rfl ?_
  intro b7
  refine o_assign rfl .free rfl ?_
  refine o_done ?_
  refine s_seq ?_
  refine s_seq ?_
  refine o_enter rfl ?_
  refine o_assign rfl .free rfl ?_
  refine o_done ?_
  refine s_block ?_
  refine s_while (X := Nat × List Value) (fun x => l.length - x.1) (fun x => [(0, .slice oa l.length c), (3, .slice (some ⟨b7, 0, none⟩) l.length l.length), (4, .int .i64 (x.1 : Nat))]) (fun _ => I) (fun x => (b7, .cells x.2.toArray 9 (0, 0)) :: L) (fun x => x.1 ≤ l.length ∧ x.2.length = l.length ∧ ∀ j, j < x.1 → x.2[j]? = (l.map sv)[j]?) (0, List.replicate l.length (.string (str []))) ⟨by simp, by simp, by simp⟩ ⟨rfl, rfl, rfl, trivial⟩ (fun _ h => h) ?_
  rintro ⟨i, cs⟩ ⟨hi, hcl, hcs⟩ ih
  simp only at hi hcl hcs ih
  refine s_seq ?_
  refine s_seq ?_
  refine o_enter rfl ?_
  refine o_move rfl .free rfl ?_
  refine o_move rfl .free rfl ?_
  refine o_len_slice rfl .free rfl ?_
  refine o_cmp rfl rfl rfl .free rfl ?_
  refine o_done ?_
  first | refine s_if rfl ?_ ?_ | refine s_ifn rfl ?_ ?_ | refine s_cond rfl ?_ ?_
  · intro c0
    simp only at c0
    obtain ⟨x, hx, hst⟩ := h.at i (by omega)
    refine s_skip ?_
    refine s_seq ?_
    refine s_block ?_
    refine o_enter rfl ?_
    iterate 4 refine o_move rfl .free rfl ?_
    refine o_indexAddr' rfl rfl _ rfl (by first | omega | exact lt_of (by assumption) (by decide) | (simp; done) | (simp; omega) | decide | (simp at *; omega)) (by first | rfl | assumption) .free rfl ?_
    refine o_load rfl (by first | exact loads_still1 (by assumption) rfl | exact loads_ownS (by first | exact m0 | exact m1 | exact m2 | exact m3 | exact m4 | exact m5 | exact m6) (by rfl) | exact loads_own1 (by first | exact m0 | exact m1 | exact m2 | exact m3 | exact m4 | exact m5 | exact m6) (by rfl) rfl | exact loads_stillS (by assumption) (by rfl) | exact loads_stillF (by assumption) (by rfl) rfl) .free rfl ?_
    refine o_indexAddr rfl rfl i rfl (by omega) .free rfl ?_
    have e : (⟨b7, 0, none⟩ : Addr).add (i * 1) = ⟨b7, i, none⟩ := by unfold Addr.add; split <;> simp_all
    rw [e]
    refine o_store rfl rfl rfl rfl (by first | rfl | (simp only [List.toList_toArray, List.all_cons, List.all_nil, plainCell_buf, Bool.and_true, Bool.true_and] <;> rfl)) (by first | exact u0 | exact u1 | exact u2 | exact u3 | exact u4 | exact u5 | exact u6) (putN_one (by simp only; omega) rfl rfl) .free ?_
    refine o_done ?_
    refine s_inBlock ?_
    refine o_enter rfl ?_
    refine o_move rfl .free rfl ?_
    refine o_arith rfl rfl rfl (by omega) .free rfl ?_
    refine o_assign rfl .free rfl ?_
    refine o_done ?_
    refine s_env (E' := [(0, .slice oa l.length c), (3, .slice (some ⟨b7, 0, none⟩) l.length l.length), (4, .int .i64 ((i + 1 : Nat)))]) ⟨rfl, rfl, rfl, trivial⟩ (ih (i + 1, cs.set i (.string (str l[i]))) ⟨by simp only; omega, by simp only [List.length_set]; omega, ?_⟩ (by simp only; omega))
    intro j hj
    simp only at hj ⊢
    rw [List.getElem?_set]
    rcases Nat.lt_or_ge j i with hj2 | hj2
    · rw [if_neg (by omega)]; exact hcs j hj2
    · obtain rfl : j = i := by omega
      rw [if_pos rfl, if_pos (by omega)]
      simp [sv, show j < l.length by omega]
  · intro c0
    obtain rfl : i = l.length := by simp only at c0; omega
    obtain rfl : cs = l.map sv := by
      apply List.ext_getElem?
      intro j
      by_cases hj : j < l.length
      · exact hcs j hj
      · rw [List.getElem?_eq_none (by omega), List.getElem?_eq_none (by simp; omega)]
    refine s_exit rfl ?_
    refine s_seq ?_
    refine s_freeze ?_
    intro hfz
    refine o_enter rfl ?_
    refine o_move rfl .free rfl ?_
    refine o_assign rfl .free rfl ?_
    refine o_done ?_
    refine s_ret (.tmp rfl .nil) ?_
    refine ⟨_, L, hfz, fun _ h => h, _, rfl, ⟨fun y hy => by cases hy; simpa using still_set (xs := l.map sv) (ys := []), by simp, Nat.le_refl _, h.len, h.each⟩, rfl⟩

theorem x_eqStringS {I : Heap} {oa ob : Option Addr} {l : List Txt} {c c' : Nat} (h : Strs I oa l c) (h' : Strs I ob l c') (L : Own) :
    Fun Try.prog 8 [.slice oa l.length c, .slice ob l.length c'] I L (Only (.bool true) I L) := by
  have hlen := h.len
  unfold maxN at hlen
  refine fun_intro (by simp) ?_
  refine s_seq ?_
  refine o_enter rfl ?_
  refine o_assign rfl .free rfl ?_
  refine o_done ?_
  refine s_seq ?_
  refine s_seq ?_
  refine o_enter rfl ?_
  refine o_move rfl .free rfl ?_
  refine o_len_slice rfl .free rfl ?_
  refine o_move rfl .free rfl ?_
  refine o_len_slice rfl .free rfl ?_
  refine o_cmp rfl rfl rfl .free rfl ?_
  refine o_done ?_
  first | refine s_fp rfl (by omega) ?_ | refine s_fn rfl (by omega) ?_ | refine s_false (by simp [look, opd, *]) ?_
  refine s_skip ?_
  refine s_seq ?_
  refine s_seq ?_
  refine o_enter rfl ?_
  refine o_assign rfl .free rfl ?_
  refine o_done ?_
  refine s_block ?_
  refine s_while (X := Nat) (fun i => l.length - i) (fun i => [(0, .slice oa l.length c), (1, .slice ob l.length c'), (5, .int .i64 (i : Nat))]) (fun _ => I) (fun _ => L) (fun i => i ≤ l.length) 0 (by simp) ⟨rfl, rfl, rfl, trivial⟩ (fun _ h => h) ?_
  rintro i hi ih
  refine s_seq ?_
  refine s_seq ?_
  refine o_enter rfl ?_
  refine o_move rfl .free rfl ?_
  refine o_move rfl .free rfl ?_
  refine o_len_slice rfl .free rfl ?_
  refine o_cmp rfl rfl rfl .free rfl ?_
  refine o_done ?_
  first | refine s_if rfl ?_ ?_ | refine s_ifn rfl ?_ ?_ | refine s_cond rfl ?_ ?_
  · intro c1
    obtain ⟨x, hx, hst⟩ := h.at i (by omega)
    obtain ⟨y, hy, hst'⟩ := h'.at i (by omega)
    refine s_skip ?_
    refine s_seq ?_
    refine s_block ?_
    refine s_seq ?_
    refine d_all 9 rfl rfl ?_
    refine d_takeA 0 rfl (by kernel_rfl) rfl (.inr (by intro _ h; first | exact h | exact h.er 0 rfl | exact h.er 1 rfl | exact h.er 2 rfl | exact h.er 3 rfl | exact h.er 4 rfl | exact Mem.le (by assumption) h | exact Mem.le (by assumption) (h.er 0 rfl) | exact Mem.le (by assumption) (h.er 1 rfl) | exact Mem.le (by assumption) (h.er 2 rfl) | exact Mem.le (by assumption) (h.er 3 rfl) | exact h.er 5 rfl | exact h.er 6 rfl)) (y_move rfl) .free rfl ?_
    refine d_takeA 1 rfl (by kernel_rfl) rfl (.inr (by intro _ h; first | exact h | exact h.er 0 rfl | exact h.er 1 rfl | exact h.er 2 rfl | exact h.er 3 rfl | exact h.er 4 rfl | exact Mem.le (by assumption) h | exact Mem.le (by assumption) (h.er 0 rfl) | exact Mem.le (by assumption) (h.er 1 rfl) | exact Mem.le (by assumption) (h.er 2 rfl) | exact Mem.le (by assumption) (h.er 3 rfl) | exact h.er 5 rfl | exact h.er 6 rfl)) (y_move rfl) .free rfl ?_
    refine d_takeA 2 rfl (by kernel_rfl) rfl (.inr (by intro _ h; first | exact h | exact h.er 0 rfl | exact h.er 1 rfl | exact h.er 2 rfl | exact h.er 3 rfl | exact h.er 4 rfl | exact Mem.le (by assumption) h | exact Mem.le (by assumption) (h.er 0 rfl) | exact Mem.le (by assumption) (h.er 1 rfl) | exact Mem.le (by assumption) (h.er 2 rfl) | exact Mem.le (by assumption) (h.er 3 rfl) | exact h.er 5 rfl | exact h.er 6 rfl)) (y_indexAddr' rfl rfl _ rfl (by first | omega | exact lt_of (by assumption) (by decide) | (simp; done) | (simp; omega) | decide | (simp at *; omega)) (by first | rfl | assumption)) .free rfl ?_
    refine d_take 3 [9] rfl (by kernel_rfl) rfl (by intro _ h; first | exact h | exact h.er 0 rfl | exact h.er 1 rfl | exact h.er 2 rfl | exact h.er 3 rfl | exact h.er 4 rfl | exact Mem.le (by assumption) h | exact Mem.le (by assumption) (h.er 0 rfl) | exact Mem.le (by assumption) (h.er 1 rfl) | exact Mem.le (by assumption) (h.er 2 rfl) | exact Mem.le (by assumption) (h.er 3 rfl) | exact h.er 5 rfl | exact h.er 6 rfl) (y_load rfl (by first | exact loads_still1 (by assumption) rfl | exact loads_ownS (by first | exact m0 | exact m1 | exact m2 | exact m3 | exact m4 | exact m5 | exact m6) (by rfl) | exact loads_own1 (by first | exact m0 | exact m1 | exact m2 | exact m3 | exact m4 | exact m5 | exact m6) (by rfl) rfl | exact loads_stillS (by assumption) (by rfl) | exact loads_stillF (by assumption) (by rfl) rfl)) .free rfl ?_
    refine d_takeA 4 rfl (by kernel_rfl) rfl (.inr (by intro _ h; first | exact h | exact h.er 0 rfl | exact h.er 1 rfl | exact h.er 2 rfl | exact h.er 3 rfl | exact h.er 4 rfl | exact Mem.le (by assumption) h | exact Mem.le (by assumption) (h.er 0 rfl) | exact Mem.le (by assumption) (h.er 1 rfl) | exact Mem.le (by assumption) (h.er 2 rfl) | exact Mem.le (by assumption) (h.er 3 rfl) | exact h.er 5 rfl | exact h.er 6 rfl)) (y_move rfl) .free rfl ?_
    refine d_takeA 5 rfl (by kernel_rfl) rfl (.inr (by intro _ h; first | exact h | exact h.er 0 rfl | exact h.er 1 rfl | exact h.er 2 rfl | exact h.er 3 rfl | exact h.er 4 rfl | exact Mem.le (by assumption) h | exact Mem.le (by assumption) (h.er 0 rfl) | exact Mem.le (by assumption) (h.er 1 rfl) | exact Mem.le (by assumption) (h.er 2 rfl) | exact Mem.le (by assumption) (h.er 3 rfl) | exact h.er 5 rfl | exact h.er 6 rfl)) (y_move rfl) .free rfl ?_
    refine d_takeA 6 rfl (by kernel_rfl) rfl (.inr (by intro _ h; first | exact h | exact h.er 0 rfl | exact h.er 1 rfl | exact h.er 2 rfl | exact h.er 3 rfl | exact h.er 4 rfl | exact Mem.le (by assumption) h | exact Mem.le (by assumption) (h.er 0 rfl) | exact Mem.le (by assumption) (h.er 1 rfl) | exact Mem.le (by assumption) (h.er 2 rfl) | exact Mem.le (by assumption) (h.er 3 rfl) | exact h.er 5 rfl | exact h.er 6 rfl)) (y_indexAddr' rfl rfl _ rfl (by first | omega | exact lt_of (by assumption) (by decide) | (simp; done) | (simp; omega) | decide | (simp at *; omega)) (by first | rfl | assumption)) .free rfl ?_
    refine d_take 7 [9] rfl (by kernel_rfl) rfl (by intro _ h; first | exact h | exact h.er 0 rfl | exact h.er 1 rfl | exact h.er 2 rfl | exact h.er 3 rfl | exact h.er 4 rfl | exact Mem.le (by assumption) h | exact Mem.le (by assumption) (h.er 0 rfl) | exact Mem.le (by assumption) (h.er 1 rfl) | exact Mem.le (by assumption) (h.er 2 rfl) | exact Mem.le (by assumption) (h.er 3 rfl) | exact h.er 5 rfl | exact h.er 6 rfl) (y_load rfl (by first | exact loads_still1 (by assumption) rfl | exact loads_ownS (by first | exact m0 | exact m1 | exact m2 | exact m3 | exact m4 | exact m5 | exact m6) (by rfl) | exact loads_own1 (by first | exact m0 | exact m1 | exact m2 | exact m3 | exact m4 | exact m5 | exact m6) (by rfl) rfl | exact loads_stillS (by assumption) (by rfl) | exact loads_stillF (by assumption) (by rfl) rfl)) .free rfl ?_
    refine d_takeA 8 rfl (by kernel_rfl) rfl (.inr (by intro _ h; first | exact h | exact h.er 0 rfl | exact h.er 1 rfl | exact h.er 2 rfl | exact h.er 3 rfl | exact h.er 4 rfl | exact Mem.le (by assumption) h | exact Mem.le (by assumption) (h.er 0 rfl) | exact Mem.le (by assumption) (h.er 1 rfl) | exact Mem.le (by assumption) (h.er 2 rfl) | exact Mem.le (by assumption) (h.er 3 rfl) | exact h.er 5 rfl | exact h.er 6 rfl)) (y_cmps rfl rfl rfl) .free rfl ?_
    refine d_done (by kernel_rfl) ?_
    first | refine s_fp rfl (by simp) ?_ | refine s_fn rfl (by simp) ?_ | refine s_false (by simp [look, opd, *]) ?_
    refine s_skip ?_
    refine s_inBlock ?_
    refine o_enter rfl ?_
    refine o_move rfl .free rfl ?_
    refine o_arith rfl rfl rfl (by omega) .free rfl ?_
    refine o_assign rfl .free rfl ?_
    refine o_done ?_
    refine s_env (E' := [(0, .slice oa l.length c), (1, .slice ob l.length c'), (5, .int .i64 ((i + 1 : Nat)))]) ⟨rfl, rfl, rfl, trivial⟩ (ih (i + 1) (by omega) (by omega))
  · intro c1
    refine s_exit rfl ?_
    refine s_seq ?_
    refine o_enter rfl ?_
    refine o_assign rfl .free rfl ?_
    refine o_done ?_
    refine s_ret (.tmp rfl .nil) ?_
    refine done_only rfl (by intro _ h; first | exact h | exact dr1 h | exact dr2 h | exact dr3 h | exact dr4 h | exact dr5 h | exact dr6 h) ?_
    simp [retOne, *]
end Go.Proofs.Yteebkhdnjkchgaa
