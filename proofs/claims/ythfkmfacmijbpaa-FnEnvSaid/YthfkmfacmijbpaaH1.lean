
/- A list's text, a valid environment by the program. No conditions. -/
import Derived.Test.YthfkmfacmijbpaaW9
namespace Go.Proofs.Ythfkmfacmijbpaa
set_option maxRecDepth 100000
set_option linter.unusedVariables false
set_option linter.unusedSimpArgs false

theorem x_hasText {I : Heap} {oa : Option Addr} {l : List Txt} {c : Nat} (h : Strs I oa l c) (s : Txt) (L : Own) :
    Fun Try.prog 8 [.slice oa l.length c, .string (str s)] I L (Only (.bool (decide (s ∈ l))) I L) := by
  have hlen := h.len
  unfold maxN at hlen
  refine fun_intro (by simp) ?_
  refine s_seq ?_
  refine o_enter rfl ?_
  refine o_assign rfl .free rfl ?_
  refine o_done ?_
  refine s_seq ?_
  refine s_seq ?_
  refine o_enter rfl ?_
  refine o_assign rfl .free rfl ?_
  refine o_done ?_
  refine s_block ?_
  refine s_while (X := Nat) (fun i => l.length - i) (fun i => [(0, .slice oa l.length c), (1, .string (str s)), (5, .int .i64 (i : Nat))]) (fun _ => I) (fun _ => L) (fun i => i ≤ l.length ∧ s ∉ l.take i) 0 ⟨by simp, by simp⟩ ⟨rfl, rfl, rfl, trivial⟩ (fun _ h => h) ?_
  rintro i ⟨hi, hs⟩ ih
  refine s_seq ?_
  refine s_seq ?_
  refine o_enter rfl ?_
  refine o_move rfl .free rfl ?_
  refine o_move rfl .free rfl ?_
  refine o_len_slice rfl .free rfl ?_
  refine o_cmp rfl rfl rfl .free rfl ?_
  refine o_done ?_
  first | refine s_if rfl ?_ ?_ | refine s_ifn rfl ?_ ?_ | refine s_cond rfl ?_ ?_
  · intro c0
    obtain ⟨x, hx, hst⟩ := h.at i (by omega)
    refine s_skip ?_
    refine s_seq ?_
    refine s_block ?_
    refine s_seq ?_
    refine o_enter rfl ?_
    refine o_move rfl .free rfl ?_
    refine o_move rfl .free rfl ?_
    refine o_indexAddr' rfl rfl _ rfl (by first | omega | (simp; done) | (simp; omega) | (simp at *; omega)) (by first | rfl | assumption) .free rfl ?_
    refine o_load rfl (by first | exact loads_still1 (by assumption) rfl | exact loads_ownS (by first | exact .head _ | exact .tail _ (.head _) | exact .tail _ (.tail _ (.head _)) | exact .tail _ (.tail _ (.tail _ (.head _))) | exact .tail _ (.tail _ (.tail _ (.tail _ (.head _)))) | exact .tail _ (.tail _ (.tail _ (.tail _ (.tail _ (.head _))))) | exact .tail _ (.tail _ (.tail _ (.tail _ (.tail _ (.tail _ (.head _))))))) (by rfl) | exact loads_own1 (by first | exact .head _ | exact .tail _ (.head _) | exact .tail _ (.tail _ (.head _)) | exact .tail _ (.tail _ (.tail _ (.head _))) | exact .tail _ (.tail _ (.tail _ (.tail _ (.head _)))) | exact .tail _ (.tail _ (.tail _ (.tail _ (.tail _ (.head _))))) | exact .tail _ (.tail _ (.tail _ (.tail _ (.tail _ (.tail _ (.head _))))))) (by rfl) rfl | exact loads_stillS (by assumption) (by rfl) | exact loads_stillF (by assumption) (by rfl) rfl) .free rfl ?_
    refine o_move rfl .free rfl ?_
    refine o_cmps rfl rfl rfl .free rfl ?_
    refine o_done ?_
    first | refine s_if rfl ?_ ?_ | refine s_ifn rfl ?_ ?_ | refine s_cond rfl ?_ ?_
    · intro c1
      refine s_seq ?_
      refine o_enter rfl ?_
      refine o_assign rfl .free rfl ?_
      refine o_done ?_
      refine s_ret (.tmp rfl .nil) ?_
      refine done_only rfl (by first | exact fun _ h => h | exact fun _ h => h.drop | exact fun _ h => h.drop.drop | exact fun _ h => h.drop.drop.drop | exact fun _ h => h.drop.drop.drop.drop | exact fun _ h => h.drop.drop.drop.drop.drop | exact fun _ h => h.drop.drop.drop.drop.drop.drop) ?_
      have : s ∈ l := by have h2 := List.getElem_mem (show i < l.length by omega); rwa [c1] at h2
      simp [retOne, this]
    · intro c1
      refine s_skip ?_
      refine s_inBlock ?_
      refine o_enter rfl ?_
      refine o_move rfl .free rfl ?_
      refine o_arith rfl rfl rfl (by omega) .free rfl ?_
      refine o_assign rfl .free rfl ?_
      refine o_done ?_
      refine s_env (E' := [(0, .slice oa l.length c), (1, .string (str s)), (5, .int .i64 ((i + 1 : Nat)))]) ⟨rfl, rfl, rfl, trivial⟩ (ih (i + 1) ⟨by omega, ?_⟩ (by omega))
      rw [List.take_succ_eq_append_getElem (by omega), List.mem_append]
      rintro (h1 | h1)
      · exact hs h1
      · exact c1 (List.mem_singleton.1 h1).symm
  · intro c0
    refine s_exit rfl ?_
    refine s_seq ?_
    refine o_enter rfl ?_
    refine o_assign rfl .free rfl ?_
    refine o_done ?_
    refine s_ret (.tmp rfl .nil) ?_
    refine done_only rfl (by first | exact fun _ h => h | exact fun _ h => h.drop | exact fun _ h => h.drop.drop | exact fun _ h => h.drop.drop.drop | exact fun _ h => h.drop.drop.drop.drop | exact fun _ h => h.drop.drop.drop.drop.drop | exact fun _ h => h.drop.drop.drop.drop.drop.drop) ?_
    have : s ∉ l := by rwa [List.take_of_length_le (by omega)] at hs
    simp [retOne, this]

theorem f_EnvValid {I : Heap} {oa ob : Option Addr} {l m : List Txt} {c c' : Nat} (h : Strs I oa l c) (h' : Strs I ob m c') (L : Own) :
    Fun Try.prog 5 [.slice oa l.length c, .slice ob m.length c'] I L (fun v I' L' => v = .bool (isEnv l m) ∧ L = L') := by
  refine fun_intro (by simp) ?_
  refine s_seq ?_
  refine o_enter rfl ?_
  refine o_assign rfl .free rfl ?_
  refine o_done ?_
  refine s_seq ?_
  refine o_enter rfl ?_
  refine o_move rfl .free rfl ?_
  refine o_move rfl .free rfl ?_
  refine o_call rfl .free rfl (f_readEnv h h' _) ?_
  rintro _ J _ hleJ ⟨oa', n, c2, ob', ts, c3, rfl, rfl, hrep, hE⟩
  refine o_move rfl .free rfl ?_
  refine o_extract rfl rfl .free rfl ?_
  refine o_extract rfl rfl .free rfl ?_
  refine o_alloc .free rfl ?_
  intro b5
  refine o_store rfl rfl rfl rfl (by first | rfl | (simp only [List.toList_toArray, List.all_cons, List.all_nil, plainCell_buf, Bool.and_true, Bool.true_and] <;> rfl)) (by first | exact .here | exact .there .here | exact .there (.there .here) | exact .there (.there (.there .here)) | exact .there (.there (.there (.there .here))) | exact .there (.there (.there (.there (.there .here)))) | exact .there (.there (.there (.there (.there (.there .here)))))) (by rfl) .free ?_
  refine o_assign rfl .free rfl ?_
  refine o_done ?_
  refine s_seq ?_
  refine o_enter rfl ?_
  refine o_move rfl .free rfl ?_
  refine o_assign rfl .free rfl ?_
  refine o_done ?_
  refine s_ret (.tmp rfl .nil) ?_
  exact ⟨J, L, hleJ, fun _ h => h.drop, rfl, rfl⟩
end Go.Proofs.Ythfkmfacmijbpaa
