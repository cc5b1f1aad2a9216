
/- The draws' reader: its picks are within bounds. No conditions. -/
import Derived.Test.YthfkmfacmijbpaaW9
import Derived.Test.YthfkmfacmijbpaaOps4
namespace Go.Proofs.Ythfkmfacmijbpaa
set_option maxRecDepth 100000
set_option linter.unusedVariables false
set_option linter.unusedSimpArgs false

theorem Bytes.take {I : Heap} {oa : Option Addr} {l : List UInt8} {c : Nat} (h : Bytes I oa l c) (m : Nat) (hm : m ≤ l.length) : Bytes I (if c = 0 then oa else oa.map (·.add (0 * 1))) (l.take m) (c - 0) := by
  have e : (if c = 0 then oa else oa.map (·.add (0 * 1))) = oa := by
    have : ∀ x : Addr, x.add (0 * 1) = x := fun x => by simp [Addr.add]
    cases oa <;> simp [this]
  rw [e]
  refine ⟨fun x hx => ?_, fun hx => by rw [h.nil hx]; simp, by have := h.cap; simp; omega, by have := h.len; simp; omega⟩
  rcases h.still x hx with h0 | ⟨cc, T, fr, hb, hs, hc⟩
  · exact .inl (by have : l = [] := by simpa using h0
                   simp [this])
  · refine .inr ⟨cc, T, fr, hb, hs, fun i hi => ?_⟩
    simp only [List.length_map, List.length_take] at hi
    rw [hc i (by simp; omega)]
    simp

/-- The reader, in the call's own memory. -/
def rd (b : Nat) (oa : Option Addr) (l : List UInt8) (c p : Nat) : Nat × Obj := (b, .cells [.slice oa l.length c, .int .i64 (p : Nat)].toArray 48 (0, 0))
def OP (L : Own) : Post := fun v I' L' => ∃ b oa l c, v = .pointer (some ⟨b, 0, none⟩) ∧ Bytes I' oa l c ∧ l.length ≤ 2000 ∧ L' = rd b oa l c 0 :: L
theorem g_l6Open {I : Heap} {oa : Option Addr} {l : List UInt8} {c : Nat} (h : Bytes I oa l c) (L : Own) : Fun Try.prog 10 [.slice oa l.length c] I L (OP L) := by
  have hlen := h.len
  have hcap := h.cap
  refine fun_intro (by simp) ?_
  refine s_seq ?_
  refine o_enter rfl ?_
  refine o_assign rfl .free rfl ?_
  refine o_done ?_
  refine s_seq ?_
  refine s_seq ?_
  refine o_enter rfl ?_
  refine o_move rfl .free rfl ?_
  refine o_len_slice rfl .free rfl ?_
  refine o_cmp rfl rfl rfl .free rfl ?_
  refine o_done ?_
  first | refine s_if rfl ?_ ?_ | refine s_ifn rfl ?_ ?_ | refine s_cond rfl ?_ ?_
  · intro c0
    refine o_enter rfl ?_
    refine o_move rfl .free rfl ?_
    refine o_slice_slice rfl rfl rfl 0 2000 rfl rfl (by omega) .free rfl ?_
    refine o_assign rfl .free rfl ?_
    refine o_done ?_
    refine s_seq ?_
    refine o_enter rfl ?_
    refine o_move rfl .free rfl ?_
    refine o_struct rfl rfl rfl .free rfl ?_
    refine o_box rfl rfl .free rfl ?_
    intro b10
    refine o_assign rfl .free rfl ?_
    refine o_done ?_
    refine s_ret (.tmp rfl .nil) ?_
    first
      | exact ⟨I, _, .refl _, fun _ h => h, _, oa, l, c, rfl, h, by omega, rfl⟩
      | (have h2 := h.take 2000 (by omega)
         have e : (l.take 2000).length = 2000 - 0 := by simp; omega
         exact ⟨I, _, .refl _, fun _ h => h, _, _, l.take 2000, c - 0, rfl, h2, by omega, by unfold rd; rw [e]; rfl⟩)
  · intro c0
    refine s_skip ?_
    refine s_seq ?_
    refine o_enter rfl ?_
    refine o_move rfl .free rfl ?_
    refine o_struct rfl rfl rfl .free rfl ?_
    refine o_box rfl rfl .free rfl ?_
    intro b10
    refine o_assign rfl .free rfl ?_
    refine o_done ?_
    refine s_ret (.tmp rfl .nil) ?_
    first
      | exact ⟨I, _, .refl _, fun _ h => h, _, oa, l, c, rfl, h, by omega, rfl⟩
      | (have h2 := h.take 2000 (by omega)
         have e : (l.take 2000).length = 2000 - 0 := by simp; omega
         exact ⟨I, _, .refl _, fun _ h => h, _, _, l.take 2000, c - 0, rfl, h2, by omega, by unfold rd; rw [e]; rfl⟩)

def PK (b : Nat) (oa : Option Addr) (l : List UInt8) (c p n : Nat) (I : Heap) (L : Own) : Post := fun v I' L' => ∃ r : Nat, v = .int .i64 (r : Nat) ∧ I = I' ∧ L' = rd b oa l c (p + 1) :: L ∧ (r < n ∨ r = 0)
theorem g_l6Rd_pick {I : Heap} {oa : Option Addr} {l : List UInt8} {c : Nat} (h : Bytes I oa l c) (hl : l.length ≤ 2000) (b p n : Nat) (hp : p ≤ 1099511627776) (hn : n ≤ 4294967296) (L : Own) :
    Fun Try.prog 16 [.pointer (some ⟨b, 0, none⟩), .int .i64 (n : Nat)] I (rd b oa l c p :: L) (PK b oa l c p n I L) := by
  unfold rd
  refine fun_intro (by simp) ?_
  refine s_seq ?_
  refine o_enter rfl ?_
  refine o_assign rfl .free rfl ?_
  refine o_done ?_
  refine s_seq ?_
  refine o_enter rfl ?_
  refine o_move rfl .free rfl ?_
  refine o_move rfl .free rfl ?_
  refine o_nilCheck rfl .free rfl ?_
  first | refine o_fieldAddr rfl .free rfl ?_ | refine o_fieldAddr' rfl .free rfl ?_
  refine o_load rfl (by first | exact loads_still1 (by assumption) rfl | exact loads_ownS (by first | exact .head _ | exact .tail _ (.head _) | exact .tail _ (.tail _ (.head _)) | exact .tail _ (.tail _ (.tail _ (.head _))) | exact .tail _ (.tail _ (.tail _ (.tail _ (.head _)))) | exact .tail _ (.tail _ (.tail _ (.tail _ (.tail _ (.head _))))) | exact .tail _ (.tail _ (.tail _ (.tail _ (.tail _ (.tail _ (.head _))))))) (by rfl) | exact loads_own1 (by first | exact .head _ | exact .tail _ (.head _) | exact .tail _ (.tail _ (.head _)) | exact .tail _ (.tail _ (.tail _ (.head _))) | exact .tail _ (.tail _ (.tail _ (.tail _ (.head _)))) | exact .tail _ (.tail _ (.tail _ (.tail _ (.tail _ (.head _))))) | exact .tail _ (.tail _ (.tail _ (.tail _ (.tail _ (.tail _ (.head _))))))) (by rfl) rfl | exact loads_stillS (by assumption) (by rfl) | exact loads_stillF (by assumption) (by rfl) rfl) .free rfl ?_
  refine o_arith rfl rfl rfl (by omega) .free rfl ?_
  refine o_nilCheck rfl .free rfl ?_
  first | refine o_fieldAddr rfl .free rfl ?_ | refine o_fieldAddr' rfl .free rfl ?_
  refine o_store rfl rfl rfl rfl (by first | rfl | (simp only [List.toList_toArray, List.all_cons, List.all_nil, plainCell_buf, Bool.and_true, Bool.true_and] <;> rfl)) (by first | exact .here | exact .there .here | exact .there (.there .here) | exact .there (.there (.there .here)) | exact .there (.there (.there (.there .here))) | exact .there (.there (.there (.there (.there .here)))) | exact .there (.there (.there (.there (.there (.there .here)))))) (by rfl) .free ?_
  refine o_done ?_
  refine s_seq ?_
  refine s_seq ?_
  refine o_enter rfl ?_
  refine o_move rfl .free rfl ?_
  refine o_cmp rfl rfl rfl .free rfl ?_
  refine o_move rfl .free rfl ?_
  first | refine g_if rfl rfl ?_ ?_ | refine g_ifn rfl rfl ?_ ?_ | refine g_b rfl rfl ?_ ?_
  · intro g2_3
    refine o_skip rfl rfl rfl ?_
    refine o_skip rfl rfl rfl ?_
    refine o_skip rfl rfl rfl ?_
    refine o_skip rfl rfl rfl ?_
    refine o_skip rfl rfl rfl ?_
    refine o_skip rfl rfl rfl ?_
    refine o_pick_true rfl rfl .free rfl ?_
    refine o_done ?_
    refine s_true rfl ?_
    refine s_seq ?_
    refine o_enter rfl ?_
    refine o_assign rfl .free rfl ?_
    refine o_done ?_
    refine s_ret (.tmp rfl .nil) ?_
    exact ⟨I, _, .refl _, fun _ h => h, 0, rfl, rfl, rfl, .inr rfl⟩
  · intro g2_3
    refine o_move rfl (.met rfl rfl) rfl ?_
    refine o_nilCheck rfl (.met rfl rfl) rfl ?_
    first | refine o_fieldAddr rfl (.met rfl rfl) rfl ?_ | refine o_fieldAddr' rfl (.met rfl rfl) rfl ?_
    refine o_load rfl (by first | exact loads_still1 (by assumption) rfl | exact loads_ownS (by first | exact .head _ | exact .tail _ (.head _) | exact .tail _ (.tail _ (.head _)) | exact .tail _ (.tail _ (.tail _ (.head _))) | exact .tail _ (.tail _ (.tail _ (.tail _ (.head _)))) | exact .tail _ (.tail _ (.tail _ (.tail _ (.tail _ (.head _))))) | exact .tail _ (.tail _ (.tail _ (.tail _ (.tail _ (.tail _ (.head _))))))) (by rfl) | exact loads_own1 (by first | exact .head _ | exact .tail _ (.head _) | exact .tail _ (.tail _ (.head _)) | exact .tail _ (.tail _ (.tail _ (.head _))) | exact .tail _ (.tail _ (.tail _ (.tail _ (.head _)))) | exact .tail _ (.tail _ (.tail _ (.tail _ (.tail _ (.head _))))) | exact .tail _ (.tail _ (.tail _ (.tail _ (.tail _ (.tail _ (.head _))))))) (by rfl) rfl | exact loads_stillS (by assumption) (by rfl) | exact loads_stillF (by assumption) (by rfl) rfl) (.met rfl rfl) rfl ?_
    refine o_len_slice rfl (.met rfl rfl) rfl ?_
    refine o_cmp rfl rfl rfl (.met rfl rfl) rfl ?_
    refine o_pick_false rfl rfl .free rfl ?_
    refine o_done ?_
    first | refine s_if rfl ?_ ?_ | refine s_ifn rfl ?_ ?_ | refine s_cond rfl ?_ ?_
    · intro c0
      refine s_seq ?_
      refine o_enter rfl ?_
      refine o_assign rfl .free rfl ?_
      refine o_done ?_
      refine s_ret (.tmp rfl .nil) ?_
      exact ⟨I, _, .refl _, fun _ h => h, 0, rfl, rfl, rfl, .inr rfl⟩
    · intro c0
      refine s_skip ?_
      refine s_seq ?_
      refine o_enter rfl ?_
      refine o_move rfl .free rfl ?_
      refine o_nilCheck rfl .free rfl ?_
      first | refine o_fieldAddr rfl .free rfl ?_ | refine o_fieldAddr' rfl .free rfl ?_
      refine o_load rfl (by first | exact loads_still1 (by assumption) rfl | exact loads_ownS (by first | exact .head _ | exact .tail _ (.head _) | exact .tail _ (.tail _ (.head _)) | exact .tail _ (.tail _ (.tail _ (.head _))) | exact .tail _ (.tail _ (.tail _ (.tail _ (.head _)))) | exact .tail _ (.tail _ (.tail _ (.tail _ (.tail _ (.head _))))) | exact .tail _ (.tail _ (.tail _ (.tail _ (.tail _ (.tail _ (.head _))))))) (by rfl) | exact loads_own1 (by first | exact .head _ | exact .tail _ (.head _) | exact .tail _ (.tail _ (.head _)) | exact .tail _ (.tail _ (.tail _ (.head _))) | exact .tail _ (.tail _ (.tail _ (.tail _ (.head _)))) | exact .tail _ (.tail _ (.tail _ (.tail _ (.tail _ (.head _))))) | exact .tail _ (.tail _ (.tail _ (.tail _ (.tail _ (.tail _ (.head _))))))) (by rfl) rfl | exact loads_stillS (by assumption) (by rfl) | exact loads_stillF (by assumption) (by rfl) rfl) .free rfl ?_
      refine o_arith rfl rfl rfl (by omega) .free rfl ?_
      refine o_assign rfl .free rfl ?_
      refine o_done ?_
      refine s_seq ?_
      refine s_seq ?_
      refine s_put (t := 5) (v' := .int .i64 (p : Nat)) rfl (by congr 1; omega) ?_
      refine o_enter rfl ?_
      refine o_move rfl .free rfl ?_
      refine o_move rfl .free rfl ?_
      refine o_nilCheck rfl .free rfl ?_
      first | refine o_fieldAddr rfl .free rfl ?_ | refine o_fieldAddr' rfl .free rfl ?_
      refine o_load rfl (by first | exact loads_still1 (by assumption) rfl | exact loads_ownS (by first | exact .head _ | exact .tail _ (.head _) | exact .tail _ (.tail _ (.head _)) | exact .tail _ (.tail _ (.tail _ (.head _))) | exact .tail _ (.tail _ (.tail _ (.tail _ (.head _)))) | exact .tail _ (.tail _ (.tail _ (.tail _ (.tail _ (.head _))))) | exact .tail _ (.tail _ (.tail _ (.tail _ (.tail _ (.tail _ (.head _))))))) (by rfl) | exact loads_own1 (by first | exact .head _ | exact .tail _ (.head _) | exact .tail _ (.tail _ (.head _)) | exact .tail _ (.tail _ (.tail _ (.head _))) | exact .tail _ (.tail _ (.tail _ (.tail _ (.head _)))) | exact .tail _ (.tail _ (.tail _ (.tail _ (.tail _ (.head _))))) | exact .tail _ (.tail _ (.tail _ (.tail _ (.tail _ (.tail _ (.head _))))))) (by rfl) rfl | exact loads_stillS (by assumption) (by rfl) | exact loads_stillF (by assumption) (by rfl) rfl) .free rfl ?_
      refine o_len_slice rfl .free rfl ?_
      refine o_cmp rfl rfl rfl .free rfl ?_
      refine o_done ?_
      first | refine s_if rfl ?_ ?_ | refine s_ifn rfl ?_ ?_ | refine s_cond rfl ?_ ?_
      · intro c1
        obtain ⟨x, hx, hst⟩ := h.at p (by omega)
        refine s_seq ?_
        refine o_enter rfl ?_
        refine o_move rfl .free rfl ?_
        refine o_nilCheck rfl .free rfl ?_
        first | refine o_fieldAddr rfl .free rfl ?_ | refine o_fieldAddr' rfl .free rfl ?_
        refine o_load rfl (by first | exact loads_still1 (by assumption) rfl | exact loads_ownS (by first | exact .head _ | exact .tail _ (.head _) | exact .tail _ (.tail _ (.head _)) | exact .tail _ (.tail _ (.tail _ (.head _))) | exact .tail _ (.tail _ (.tail _ (.tail _ (.head _)))) | exact .tail _ (.tail _ (.tail _ (.tail _ (.tail _ (.head _))))) | exact .tail _ (.tail _ (.tail _ (.tail _ (.tail _ (.tail _ (.head _))))))) (by rfl) | exact loads_own1 (by first | exact .head _ | exact .tail _ (.head _) | exact .tail _ (.tail _ (.head _)) | exact .tail _ (.tail _ (.tail _ (.head _))) | exact .tail _ (.tail _ (.tail _ (.tail _ (.head _)))) | exact .tail _ (.tail _ (.tail _ (.tail _ (.tail _ (.head _))))) | exact .tail _ (.tail _ (.tail _ (.tail _ (.tail _ (.tail _ (.head _))))))) (by rfl) rfl | exact loads_stillS (by assumption) (by rfl) | exact loads_stillF (by assumption) (by rfl) rfl) .free rfl ?_
        refine o_move rfl .free rfl ?_
        refine o_indexAddr' rfl rfl _ rfl (by first | omega | (simp; done) | (simp; omega) | (simp at *; omega)) (by first | rfl | assumption) .free rfl ?_
        refine o_load rfl (by first | exact loads_still1 (by assumption) rfl | exact loads_ownS (by first | exact .head _ | exact .tail _ (.head _) | exact .tail _ (.tail _ (.head _)) | exact .tail _ (.tail _ (.tail _ (.head _))) | exact .tail _ (.tail _ (.tail _ (.tail _ (.head _)))) | exact .tail _ (.tail _ (.tail _ (.tail _ (.tail _ (.head _))))) | exact .tail _ (.tail _ (.tail _ (.tail _ (.tail _ (.tail _ (.head _))))))) (by rfl) | exact loads_own1 (by first | exact .head _ | exact .tail _ (.head _) | exact .tail _ (.tail _ (.head _)) | exact .tail _ (.tail _ (.tail _ (.head _))) | exact .tail _ (.tail _ (.tail _ (.tail _ (.head _)))) | exact .tail _ (.tail _ (.tail _ (.tail _ (.tail _ (.head _))))) | exact .tail _ (.tail _ (.tail _ (.tail _ (.tail _ (.tail _ (.head _))))))) (by rfl) rfl | exact loads_stillS (by assumption) (by rfl) | exact loads_stillF (by assumption) (by rfl) rfl) .free rfl ?_
        refine o_byteInt rfl (by first | exact UInt8.toNat_lt _ | omega) .free rfl ?_
        refine o_move rfl .free rfl ?_
        refine o_rem rfl rfl (by omega) .free rfl ?_
        refine o_assign rfl .free rfl ?_
        refine o_done ?_
        refine s_ret (.tmp rfl .nil) ?_
        exact ⟨I, _, .refl _, fun _ h => h, _, rfl, rfl, rfl, .inl (Nat.mod_lt _ (by omega))⟩
      · intro c1
        have hpos : 0 < l.length := by omega
        obtain ⟨r1, hr1, hr1l⟩ : ∃ r, r = p % l.length ∧ r < l.length := ⟨_, rfl, Nat.mod_lt _ hpos⟩
        obtain ⟨r2, hr2, hr2l⟩ : ∃ r, r = (p * 7 + 3) % l.length ∧ r < l.length := ⟨_, rfl, Nat.mod_lt _ hpos⟩
        obtain ⟨q, hq, hqp⟩ : ∃ q, q = p / l.length ∧ q ≤ p := ⟨_, rfl, Nat.div_le_self _ _⟩
        obtain ⟨x1, hx1, u1, hu1, hst1⟩ : ∃ x, oa = some x ∧ ∃ u : Nat, u < 256 ∧ Still I (x.add (r1 * 1)) [.int .u8 (u : Nat)] := by
          obtain ⟨x, hx, hst⟩ := h.at r1 hr1l
          exact ⟨x, hx, _, UInt8.toNat_lt _, hst⟩
        obtain ⟨u2, hu2, hst2⟩ : ∃ u : Nat, u < 256 ∧ Still I (x1.add (r2 * 1)) [.int .u8 (u : Nat)] := by
          obtain ⟨x, hx, hst⟩ := h.at r2 hr2l
          obtain rfl : x1 = x := by rw [hx1] at hx; exact Option.some.inj hx
          exact ⟨_, UInt8.toNat_lt _, hst⟩
        clear h
        refine s_skip ?_
        refine s_seq ?_
        refine d_but 1 46 rfl rfl ?_
        refine d_take 0 rfl (by kernel_rfl) rfl (by first | exact fun _ h => h | exact fun _ h => h.er 0 rfl | exact fun _ h => h.er 1 rfl | exact fun _ h => h.er 2 rfl | exact fun _ h => h.er 3 rfl | exact fun _ h => h.er 4 rfl | exact fun _ h => h.er 5 rfl | exact fun _ h => h.er 6 rfl) (y_move rfl) .free rfl ?_
        refine d_take 1 rfl (by kernel_rfl) rfl (by first | exact fun _ h => h | exact fun _ h => h.er 0 rfl | exact fun _ h => h.er 1 rfl | exact fun _ h => h.er 2 rfl | exact fun _ h => h.er 3 rfl | exact fun _ h => h.er 4 rfl | exact fun _ h => h.er 5 rfl | exact fun _ h => h.er 6 rfl) (y_nilCheck rfl) .free rfl ?_
        first | refine d_take 2 rfl (by kernel_rfl) rfl (by first | exact fun _ h => h | exact fun _ h => h.er 0 rfl | exact fun _ h => h.er 1 rfl | exact fun _ h => h.er 2 rfl | exact fun _ h => h.er 3 rfl | exact fun _ h => h.er 4 rfl | exact fun _ h => h.er 5 rfl | exact fun _ h => h.er 6 rfl) (y_fieldAddr rfl) .free rfl ?_ | refine d_take 2 rfl (by kernel_rfl) rfl (by first | exact fun _ h => h | exact fun _ h => h.er 0 rfl | exact fun _ h => h.er 1 rfl | exact fun _ h => h.er 2 rfl | exact fun _ h => h.er 3 rfl | exact fun _ h => h.er 4 rfl | exact fun _ h => h.er 5 rfl | exact fun _ h => h.er 6 rfl) (y_fieldAddr' rfl) .free rfl ?_
        refine d_take 3 rfl (by kernel_rfl) rfl (by first | exact fun _ h => h | exact fun _ h => h.er 0 rfl | exact fun _ h => h.er 1 rfl | exact fun _ h => h.er 2 rfl | exact fun _ h => h.er 3 rfl | exact fun _ h => h.er 4 rfl | exact fun _ h => h.er 5 rfl | exact fun _ h => h.er 6 rfl) (y_load rfl (by first | exact loads_still1 (by assumption) rfl | exact loads_ownS (by first | exact .head _ | exact .tail _ (.head _) | exact .tail _ (.tail _ (.head _)) | exact .tail _ (.tail _ (.tail _ (.head _))) | exact .tail _ (.tail _ (.tail _ (.tail _ (.head _)))) | exact .tail _ (.tail _ (.tail _ (.tail _ (.tail _ (.head _))))) | exact .tail _ (.tail _ (.tail _ (.tail _ (.tail _ (.tail _ (.head _))))))) (by rfl) | exact loads_own1 (by first | exact .head _ | exact .tail _ (.head _) | exact .tail _ (.tail _ (.head _)) | exact .tail _ (.tail _ (.tail _ (.head _))) | exact .tail _ (.tail _ (.tail _ (.tail _ (.head _)))) | exact .tail _ (.tail _ (.tail _ (.tail _ (.tail _ (.head _))))) | exact .tail _ (.tail _ (.tail _ (.tail _ (.tail _ (.tail _ (.head _))))))) (by rfl) rfl | exact loads_stillS (by assumption) (by rfl) | exact loads_stillF (by assumption) (by rfl) rfl)) .free rfl ?_
        refine d_take 4 rfl (by kernel_rfl) rfl (by first | exact fun _ h => h | exact fun _ h => h.er 0 rfl | exact fun _ h => h.er 1 rfl | exact fun _ h => h.er 2 rfl | exact fun _ h => h.er 3 rfl | exact fun _ h => h.er 4 rfl | exact fun _ h => h.er 5 rfl | exact fun _ h => h.er 6 rfl) (y_move rfl) .free rfl ?_
        refine d_take 5 rfl (by kernel_rfl) rfl (by first | exact fun _ h => h | exact fun _ h => h.er 0 rfl | exact fun _ h => h.er 1 rfl | exact fun _ h => h.er 2 rfl | exact fun _ h => h.er 3 rfl | exact fun _ h => h.er 4 rfl | exact fun _ h => h.er 5 rfl | exact fun _ h => h.er 6 rfl) (y_move rfl) .free rfl ?_
        refine d_take 6 rfl (by kernel_rfl) rfl (by first | exact fun _ h => h | exact fun _ h => h.er 0 rfl | exact fun _ h => h.er 1 rfl | exact fun _ h => h.er 2 rfl | exact fun _ h => h.er 3 rfl | exact fun _ h => h.er 4 rfl | exact fun _ h => h.er 5 rfl | exact fun _ h => h.er 6 rfl) (y_nilCheck rfl) .free rfl ?_
        first | refine d_take 7 rfl (by kernel_rfl) rfl (by first | exact fun _ h => h | exact fun _ h => h.er 0 rfl | exact fun _ h => h.er 1 rfl | exact fun _ h => h.er 2 rfl | exact fun _ h => h.er 3 rfl | exact fun _ h => h.er 4 rfl | exact fun _ h => h.er 5 rfl | exact fun _ h => h.er 6 rfl) (y_fieldAddr rfl) .free rfl ?_ | refine d_take 7 rfl (by kernel_rfl) rfl (by first | exact fun _ h => h | exact fun _ h => h.er 0 rfl | exact fun _ h => h.er 1 rfl | exact fun _ h => h.er 2 rfl | exact fun _ h => h.er 3 rfl | exact fun _ h => h.er 4 rfl | exact fun _ h => h.er 5 rfl | exact fun _ h => h.er 6 rfl) (y_fieldAddr' rfl) .free rfl ?_
        refine d_take 8 rfl (by kernel_rfl) rfl (by first | exact fun _ h => h | exact fun _ h => h.er 0 rfl | exact fun _ h => h.er 1 rfl | exact fun _ h => h.er 2 rfl | exact fun _ h => h.er 3 rfl | exact fun _ h => h.er 4 rfl | exact fun _ h => h.er 5 rfl | exact fun _ h => h.er 6 rfl) (y_load rfl (by first | exact loads_still1 (by assumption) rfl | exact loads_ownS (by first | exact .head _ | exact .tail _ (.head _) | exact .tail _ (.tail _ (.head _)) | exact .tail _ (.tail _ (.tail _ (.head _))) | exact .tail _ (.tail _ (.tail _ (.tail _ (.head _)))) | exact .tail _ (.tail _ (.tail _ (.tail _ (.tail _ (.head _))))) | exact .tail _ (.tail _ (.tail _ (.tail _ (.tail _ (.tail _ (.head _))))))) (by rfl) | exact loads_own1 (by first | exact .head _ | exact .tail _ (.head _) | exact .tail _ (.tail _ (.head _)) | exact .tail _ (.tail _ (.tail _ (.head _))) | exact .tail _ (.tail _ (.tail _ (.tail _ (.head _)))) | exact .tail _ (.tail _ (.tail _ (.tail _ (.tail _ (.head _))))) | exact .tail _ (.tail _ (.tail _ (.tail _ (.tail _ (.tail _ (.head _))))))) (by rfl) rfl | exact loads_stillS (by assumption) (by rfl) | exact loads_stillF (by assumption) (by rfl) rfl)) .free rfl ?_
        refine d_take 9 rfl (by kernel_rfl) rfl (by first | exact fun _ h => h | exact fun _ h => h.er 0 rfl | exact fun _ h => h.er 1 rfl | exact fun _ h => h.er 2 rfl | exact fun _ h => h.er 3 rfl | exact fun _ h => h.er 4 rfl | exact fun _ h => h.er 5 rfl | exact fun _ h => h.er 6 rfl) (y_len_slice rfl) .free rfl ?_
        refine d_take 10 rfl (by kernel_rfl) rfl (by first | exact fun _ h => h | exact fun _ h => h.er 0 rfl | exact fun _ h => h.er 1 rfl | exact fun _ h => h.er 2 rfl | exact fun _ h => h.er 3 rfl | exact fun _ h => h.er 4 rfl | exact fun _ h => h.er 5 rfl | exact fun _ h => h.er 6 rfl) (y_rem rfl rfl (by omega)) .free rfl ?_
        refine d_put (t := 57) rfl (v' := .int .i64 (r1 : Nat)) (by rw [hr1]) ?_
        refine d_take 11 rfl (by kernel_rfl) rfl (by first | exact fun _ h => h | exact fun _ h => h.er 0 rfl | exact fun _ h => h.er 1 rfl | exact fun _ h => h.er 2 rfl | exact fun _ h => h.er 3 rfl | exact fun _ h => h.er 4 rfl | exact fun _ h => h.er 5 rfl | exact fun _ h => h.er 6 rfl) (y_indexAddr' rfl rfl _ rfl (by first | omega | (simp; done) | (simp; omega) | (simp at *; omega)) (by first | rfl | assumption)) .free rfl ?_
        refine d_take 12 rfl (by kernel_rfl) rfl (by first | exact fun _ h => h | exact fun _ h => h.er 0 rfl | exact fun _ h => h.er 1 rfl | exact fun _ h => h.er 2 rfl | exact fun _ h => h.er 3 rfl | exact fun _ h => h.er 4 rfl | exact fun _ h => h.er 5 rfl | exact fun _ h => h.er 6 rfl) (y_load rfl (by first | exact loads_still1 (by assumption) rfl | exact loads_ownS (by first | exact .head _ | exact .tail _ (.head _) | exact .tail _ (.tail _ (.head _)) | exact .tail _ (.tail _ (.tail _ (.head _))) | exact .tail _ (.tail _ (.tail _ (.tail _ (.head _)))) | exact .tail _ (.tail _ (.tail _ (.tail _ (.tail _ (.head _))))) | exact .tail _ (.tail _ (.tail _ (.tail _ (.tail _ (.tail _ (.head _))))))) (by rfl) | exact loads_own1 (by first | exact .head _ | exact .tail _ (.head _) | exact .tail _ (.tail _ (.head _)) | exact .tail _ (.tail _ (.tail _ (.head _))) | exact .tail _ (.tail _ (.tail _ (.tail _ (.head _)))) | exact .tail _ (.tail _ (.tail _ (.tail _ (.tail _ (.head _))))) | exact .tail _ (.tail _ (.tail _ (.tail _ (.tail _ (.tail _ (.head _))))))) (by rfl) rfl | exact loads_stillS (by assumption) (by rfl) | exact loads_stillF (by assumption) (by rfl) rfl)) .free rfl ?_
        refine d_take 13 rfl (by kernel_rfl) rfl (by first | exact fun _ h => h | exact fun _ h => h.er 0 rfl | exact fun _ h => h.er 1 rfl | exact fun _ h => h.er 2 rfl | exact fun _ h => h.er 3 rfl | exact fun _ h => h.er 4 rfl | exact fun _ h => h.er 5 rfl | exact fun _ h => h.er 6 rfl) (y_byteInt rfl (by first | exact UInt8.toNat_lt _ | omega)) .free rfl ?_
        refine d_take 14 rfl (by kernel_rfl) rfl (by first | exact fun _ h => h | exact fun _ h => h.er 0 rfl | exact fun _ h => h.er 1 rfl | exact fun _ h => h.er 2 rfl | exact fun _ h => h.er 3 rfl | exact fun _ h => h.er 4 rfl | exact fun _ h => h.er 5 rfl | exact fun _ h => h.er 6 rfl) (y_arith rfl rfl rfl (by omega)) .free rfl ?_
        refine d_take 15 rfl (by kernel_rfl) rfl (by first | exact fun _ h => h | exact fun _ h => h.er 0 rfl | exact fun _ h => h.er 1 rfl | exact fun _ h => h.er 2 rfl | exact fun _ h => h.er 3 rfl | exact fun _ h => h.er 4 rfl | exact fun _ h => h.er 5 rfl | exact fun _ h => h.er 6 rfl) (y_move rfl) .free rfl ?_
        refine d_take 16 rfl (by kernel_rfl) rfl (by first | exact fun _ h => h | exact fun _ h => h.er 0 rfl | exact fun _ h => h.er 1 rfl | exact fun _ h => h.er 2 rfl | exact fun _ h => h.er 3 rfl | exact fun _ h => h.er 4 rfl | exact fun _ h => h.er 5 rfl | exact fun _ h => h.er 6 rfl) (y_nilCheck rfl) .free rfl ?_
        first | refine d_take 17 rfl (by kernel_rfl) rfl (by first | exact fun _ h => h | exact fun _ h => h.er 0 rfl | exact fun _ h => h.er 1 rfl | exact fun _ h => h.er 2 rfl | exact fun _ h => h.er 3 rfl | exact fun _ h => h.er 4 rfl | exact fun _ h => h.er 5 rfl | exact fun _ h => h.er 6 rfl) (y_fieldAddr rfl) .free rfl ?_ | refine d_take 17 rfl (by kernel_rfl) rfl (by first | exact fun _ h => h | exact fun _ h => h.er 0 rfl | exact fun _ h => h.er 1 rfl | exact fun _ h => h.er 2 rfl | exact fun _ h => h.er 3 rfl | exact fun _ h => h.er 4 rfl | exact fun _ h => h.er 5 rfl | exact fun _ h => h.er 6 rfl) (y_fieldAddr' rfl) .free rfl ?_
        refine d_take 18 rfl (by kernel_rfl) rfl (by first | exact fun _ h => h | exact fun _ h => h.er 0 rfl | exact fun _ h => h.er 1 rfl | exact fun _ h => h.er 2 rfl | exact fun _ h => h.er 3 rfl | exact fun _ h => h.er 4 rfl | exact fun _ h => h.er 5 rfl | exact fun _ h => h.er 6 rfl) (y_load rfl (by first | exact loads_still1 (by assumption) rfl | exact loads_ownS (by first | exact .head _ | exact .tail _ (.head _) | exact .tail _ (.tail _ (.head _)) | exact .tail _ (.tail _ (.tail _ (.head _))) | exact .tail _ (.tail _ (.tail _ (.tail _ (.head _)))) | exact .tail _ (.tail _ (.tail _ (.tail _ (.tail _ (.head _))))) | exact .tail _ (.tail _ (.tail _ (.tail _ (.tail _ (.tail _ (.head _))))))) (by rfl) | exact loads_own1 (by first | exact .head _ | exact .tail _ (.head _) | exact .tail _ (.tail _ (.head _)) | exact .tail _ (.tail _ (.tail _ (.head _))) | exact .tail _ (.tail _ (.tail _ (.tail _ (.head _)))) | exact .tail _ (.tail _ (.tail _ (.tail _ (.tail _ (.head _))))) | exact .tail _ (.tail _ (.tail _ (.tail _ (.tail _ (.tail _ (.head _))))))) (by rfl) rfl | exact loads_stillS (by assumption) (by rfl) | exact loads_stillF (by assumption) (by rfl) rfl)) .free rfl ?_
        refine d_take 19 rfl (by kernel_rfl) rfl (by first | exact fun _ h => h | exact fun _ h => h.er 0 rfl | exact fun _ h => h.er 1 rfl | exact fun _ h => h.er 2 rfl | exact fun _ h => h.er 3 rfl | exact fun _ h => h.er 4 rfl | exact fun _ h => h.er 5 rfl | exact fun _ h => h.er 6 rfl) (y_move rfl) .free rfl ?_
        refine d_take 20 rfl (by kernel_rfl) rfl (by first | exact fun _ h => h | exact fun _ h => h.er 0 rfl | exact fun _ h => h.er 1 rfl | exact fun _ h => h.er 2 rfl | exact fun _ h => h.er 3 rfl | exact fun _ h => h.er 4 rfl | exact fun _ h => h.er 5 rfl | exact fun _ h => h.er 6 rfl) (y_arith rfl rfl rfl (by omega)) .free rfl ?_
        refine d_take 21 rfl (by kernel_rfl) rfl (by first | exact fun _ h => h | exact fun _ h => h.er 0 rfl | exact fun _ h => h.er 1 rfl | exact fun _ h => h.er 2 rfl | exact fun _ h => h.er 3 rfl | exact fun _ h => h.er 4 rfl | exact fun _ h => h.er 5 rfl | exact fun _ h => h.er 6 rfl) (y_arith rfl rfl rfl (by omega)) .free rfl ?_
        refine d_take 22 rfl (by kernel_rfl) rfl (by first | exact fun _ h => h | exact fun _ h => h.er 0 rfl | exact fun _ h => h.er 1 rfl | exact fun _ h => h.er 2 rfl | exact fun _ h => h.er 3 rfl | exact fun _ h => h.er 4 rfl | exact fun _ h => h.er 5 rfl | exact fun _ h => h.er 6 rfl) (y_move rfl) .free rfl ?_
        refine d_take 23 rfl (by kernel_rfl) rfl (by first | exact fun _ h => h | exact fun _ h => h.er 0 rfl | exact fun _ h => h.er 1 rfl | exact fun _ h => h.er 2 rfl | exact fun _ h => h.er 3 rfl | exact fun _ h => h.er 4 rfl | exact fun _ h => h.er 5 rfl | exact fun _ h => h.er 6 rfl) (y_nilCheck rfl) .free rfl ?_
        first | refine d_take 24 rfl (by kernel_rfl) rfl (by first | exact fun _ h => h | exact fun _ h => h.er 0 rfl | exact fun _ h => h.er 1 rfl | exact fun _ h => h.er 2 rfl | exact fun _ h => h.er 3 rfl | exact fun _ h => h.er 4 rfl | exact fun _ h => h.er 5 rfl | exact fun _ h => h.er 6 rfl) (y_fieldAddr rfl) .free rfl ?_ | refine d_take 24 rfl (by kernel_rfl) rfl (by first | exact fun _ h => h | exact fun _ h => h.er 0 rfl | exact fun _ h => h.er 1 rfl | exact fun _ h => h.er 2 rfl | exact fun _ h => h.er 3 rfl | exact fun _ h => h.er 4 rfl | exact fun _ h => h.er 5 rfl | exact fun _ h => h.er 6 rfl) (y_fieldAddr' rfl) .free rfl ?_
        refine d_take 25 rfl (by kernel_rfl) rfl (by first | exact fun _ h => h | exact fun _ h => h.er 0 rfl | exact fun _ h => h.er 1 rfl | exact fun _ h => h.er 2 rfl | exact fun _ h => h.er 3 rfl | exact fun _ h => h.er 4 rfl | exact fun _ h => h.er 5 rfl | exact fun _ h => h.er 6 rfl) (y_load rfl (by first | exact loads_still1 (by assumption) rfl | exact loads_ownS (by first | exact .head _ | exact .tail _ (.head _) | exact .tail _ (.tail _ (.head _)) | exact .tail _ (.tail _ (.tail _ (.head _))) | exact .tail _ (.tail _ (.tail _ (.tail _ (.head _)))) | exact .tail _ (.tail _ (.tail _ (.tail _ (.tail _ (.head _))))) | exact .tail _ (.tail _ (.tail _ (.tail _ (.tail _ (.tail _ (.head _))))))) (by rfl) | exact loads_own1 (by first | exact .head _ | exact .tail _ (.head _) | exact .tail _ (.tail _ (.head _)) | exact .tail _ (.tail _ (.tail _ (.head _))) | exact .tail _ (.tail _ (.tail _ (.tail _ (.head _)))) | exact .tail _ (.tail _ (.tail _ (.tail _ (.tail _ (.head _))))) | exact .tail _ (.tail _ (.tail _ (.tail _ (.tail _ (.tail _ (.head _))))))) (by rfl) rfl | exact loads_stillS (by assumption) (by rfl) | exact loads_stillF (by assumption) (by rfl) rfl)) .free rfl ?_
        refine d_take 26 rfl (by kernel_rfl) rfl (by first | exact fun _ h => h | exact fun _ h => h.er 0 rfl | exact fun _ h => h.er 1 rfl | exact fun _ h => h.er 2 rfl | exact fun _ h => h.er 3 rfl | exact fun _ h => h.er 4 rfl | exact fun _ h => h.er 5 rfl | exact fun _ h => h.er 6 rfl) (y_len_slice rfl) .free rfl ?_
        refine d_put (t := 68) rfl (v' := .int .i64 ((p * 7 + 3 : Nat))) (by congr 1) ?_
        refine d_take 27 rfl (by kernel_rfl) rfl (by first | exact fun _ h => h | exact fun _ h => h.er 0 rfl | exact fun _ h => h.er 1 rfl | exact fun _ h => h.er 2 rfl | exact fun _ h => h.er 3 rfl | exact fun _ h => h.er 4 rfl | exact fun _ h => h.er 5 rfl | exact fun _ h => h.er 6 rfl) (y_rem rfl rfl (by omega)) .free rfl ?_
        refine d_put (t := 74) rfl (v' := .int .i64 (r2 : Nat)) (by rw [hr2]) ?_
        refine d_take 28 rfl (by kernel_rfl) rfl (by first | exact fun _ h => h | exact fun _ h => h.er 0 rfl | exact fun _ h => h.er 1 rfl | exact fun _ h => h.er 2 rfl | exact fun _ h => h.er 3 rfl | exact fun _ h => h.er 4 rfl | exact fun _ h => h.er 5 rfl | exact fun _ h => h.er 6 rfl) (y_indexAddr' rfl rfl _ rfl (by first | omega | (simp; done) | (simp; omega) | (simp at *; omega)) (by first | rfl | assumption)) .free rfl ?_
        refine d_take 29 rfl (by kernel_rfl) rfl (by first | exact fun _ h => h | exact fun _ h => h.er 0 rfl | exact fun _ h => h.er 1 rfl | exact fun _ h => h.er 2 rfl | exact fun _ h => h.er 3 rfl | exact fun _ h => h.er 4 rfl | exact fun _ h => h.er 5 rfl | exact fun _ h => h.er 6 rfl) (y_load rfl (by first | exact loads_still1 (by assumption) rfl | exact loads_ownS (by first | exact .head _ | exact .tail _ (.head _) | exact .tail _ (.tail _ (.head _)) | exact .tail _ (.tail _ (.tail _ (.head _))) | exact .tail _ (.tail _ (.tail _ (.tail _ (.head _)))) | exact .tail _ (.tail _ (.tail _ (.tail _ (.tail _ (.head _))))) | exact .tail _ (.tail _ (.tail _ (.tail _ (.tail _ (.tail _ (.head _))))))) (by rfl) | exact loads_own1 (by first | exact .head _ | exact .tail _ (.head _) | exact .tail _ (.tail _ (.head _)) | exact .tail _ (.tail _ (.tail _ (.head _))) | exact .tail _ (.tail _ (.tail _ (.tail _ (.head _)))) | exact .tail _ (.tail _ (.tail _ (.tail _ (.tail _ (.head _))))) | exact .tail _ (.tail _ (.tail _ (.tail _ (.tail _ (.tail _ (.head _))))))) (by rfl) rfl | exact loads_stillS (by assumption) (by rfl) | exact loads_stillF (by assumption) (by rfl) rfl)) .free rfl ?_
        refine d_take 30 rfl (by kernel_rfl) rfl (by first | exact fun _ h => h | exact fun _ h => h.er 0 rfl | exact fun _ h => h.er 1 rfl | exact fun _ h => h.er 2 rfl | exact fun _ h => h.er 3 rfl | exact fun _ h => h.er 4 rfl | exact fun _ h => h.er 5 rfl | exact fun _ h => h.er 6 rfl) (y_byteInt rfl (by first | exact UInt8.toNat_lt _ | omega)) .free rfl ?_
        refine d_take 31 rfl (by kernel_rfl) rfl (by first | exact fun _ h => h | exact fun _ h => h.er 0 rfl | exact fun _ h => h.er 1 rfl | exact fun _ h => h.er 2 rfl | exact fun _ h => h.er 3 rfl | exact fun _ h => h.er 4 rfl | exact fun _ h => h.er 5 rfl | exact fun _ h => h.er 6 rfl) (y_arith rfl rfl rfl (by omega)) .free rfl ?_
        refine d_take 32 rfl (by kernel_rfl) rfl (by first | exact fun _ h => h | exact fun _ h => h.er 0 rfl | exact fun _ h => h.er 1 rfl | exact fun _ h => h.er 2 rfl | exact fun _ h => h.er 3 rfl | exact fun _ h => h.er 4 rfl | exact fun _ h => h.er 5 rfl | exact fun _ h => h.er 6 rfl) (y_arith rfl rfl rfl (by omega)) .free rfl ?_
        refine d_take 33 rfl (by kernel_rfl) rfl (by first | exact fun _ h => h | exact fun _ h => h.er 0 rfl | exact fun _ h => h.er 1 rfl | exact fun _ h => h.er 2 rfl | exact fun _ h => h.er 3 rfl | exact fun _ h => h.er 4 rfl | exact fun _ h => h.er 5 rfl | exact fun _ h => h.er 6 rfl) (y_move rfl) .free rfl ?_
        refine d_take 34 rfl (by kernel_rfl) rfl (by first | exact fun _ h => h | exact fun _ h => h.er 0 rfl | exact fun _ h => h.er 1 rfl | exact fun _ h => h.er 2 rfl | exact fun _ h => h.er 3 rfl | exact fun _ h => h.er 4 rfl | exact fun _ h => h.er 5 rfl | exact fun _ h => h.er 6 rfl) (y_arith rfl rfl rfl (by omega)) .free rfl ?_
        refine d_take 35 rfl (by kernel_rfl) rfl (by first | exact fun _ h => h | exact fun _ h => h.er 0 rfl | exact fun _ h => h.er 1 rfl | exact fun _ h => h.er 2 rfl | exact fun _ h => h.er 3 rfl | exact fun _ h => h.er 4 rfl | exact fun _ h => h.er 5 rfl | exact fun _ h => h.er 6 rfl) (y_arith rfl rfl rfl (by omega)) .free rfl ?_
        refine d_take 36 rfl (by kernel_rfl) rfl (by first | exact fun _ h => h | exact fun _ h => h.er 0 rfl | exact fun _ h => h.er 1 rfl | exact fun _ h => h.er 2 rfl | exact fun _ h => h.er 3 rfl | exact fun _ h => h.er 4 rfl | exact fun _ h => h.er 5 rfl | exact fun _ h => h.er 6 rfl) (y_move rfl) .free rfl ?_
        refine d_take 37 rfl (by kernel_rfl) rfl (by first | exact fun _ h => h | exact fun _ h => h.er 0 rfl | exact fun _ h => h.er 1 rfl | exact fun _ h => h.er 2 rfl | exact fun _ h => h.er 3 rfl | exact fun _ h => h.er 4 rfl | exact fun _ h => h.er 5 rfl | exact fun _ h => h.er 6 rfl) (y_move rfl) .free rfl ?_
        refine d_take 38 rfl (by kernel_rfl) rfl (by first | exact fun _ h => h | exact fun _ h => h.er 0 rfl | exact fun _ h => h.er 1 rfl | exact fun _ h => h.er 2 rfl | exact fun _ h => h.er 3 rfl | exact fun _ h => h.er 4 rfl | exact fun _ h => h.er 5 rfl | exact fun _ h => h.er 6 rfl) (y_nilCheck rfl) .free rfl ?_
        first | refine d_take 39 rfl (by kernel_rfl) rfl (by first | exact fun _ h => h | exact fun _ h => h.er 0 rfl | exact fun _ h => h.er 1 rfl | exact fun _ h => h.er 2 rfl | exact fun _ h => h.er 3 rfl | exact fun _ h => h.er 4 rfl | exact fun _ h => h.er 5 rfl | exact fun _ h => h.er 6 rfl) (y_fieldAddr rfl) .free rfl ?_ | refine d_take 39 rfl (by kernel_rfl) rfl (by first | exact fun _ h => h | exact fun _ h => h.er 0 rfl | exact fun _ h => h.er 1 rfl | exact fun _ h => h.er 2 rfl | exact fun _ h => h.er 3 rfl | exact fun _ h => h.er 4 rfl | exact fun _ h => h.er 5 rfl | exact fun _ h => h.er 6 rfl) (y_fieldAddr' rfl) .free rfl ?_
        refine d_take 40 rfl (by kernel_rfl) rfl (by first | exact fun _ h => h | exact fun _ h => h.er 0 rfl | exact fun _ h => h.er 1 rfl | exact fun _ h => h.er 2 rfl | exact fun _ h => h.er 3 rfl | exact fun _ h => h.er 4 rfl | exact fun _ h => h.er 5 rfl | exact fun _ h => h.er 6 rfl) (y_load rfl (by first | exact loads_still1 (by assumption) rfl | exact loads_ownS (by first | exact .head _ | exact .tail _ (.head _) | exact .tail _ (.tail _ (.head _)) | exact .tail _ (.tail _ (.tail _ (.head _))) | exact .tail _ (.tail _ (.tail _ (.tail _ (.head _)))) | exact .tail _ (.tail _ (.tail _ (.tail _ (.tail _ (.head _))))) | exact .tail _ (.tail _ (.tail _ (.tail _ (.tail _ (.tail _ (.head _))))))) (by rfl) | exact loads_own1 (by first | exact .head _ | exact .tail _ (.head _) | exact .tail _ (.tail _ (.head _)) | exact .tail _ (.tail _ (.tail _ (.head _))) | exact .tail _ (.tail _ (.tail _ (.tail _ (.head _)))) | exact .tail _ (.tail _ (.tail _ (.tail _ (.tail _ (.head _))))) | exact .tail _ (.tail _ (.tail _ (.tail _ (.tail _ (.tail _ (.head _))))))) (by rfl) rfl | exact loads_stillS (by assumption) (by rfl) | exact loads_stillF (by assumption) (by rfl) rfl)) .free rfl ?_
        refine d_take 41 rfl (by kernel_rfl) rfl (by first | exact fun _ h => h | exact fun _ h => h.er 0 rfl | exact fun _ h => h.er 1 rfl | exact fun _ h => h.er 2 rfl | exact fun _ h => h.er 3 rfl | exact fun _ h => h.er 4 rfl | exact fun _ h => h.er 5 rfl | exact fun _ h => h.er 6 rfl) (y_len_slice rfl) .free rfl ?_
        refine d_take 42 rfl (by kernel_rfl) rfl (by first | exact fun _ h => h | exact fun _ h => h.er 0 rfl | exact fun _ h => h.er 1 rfl | exact fun _ h => h.er 2 rfl | exact fun _ h => h.er 3 rfl | exact fun _ h => h.er 4 rfl | exact fun _ h => h.er 5 rfl | exact fun _ h => h.er 6 rfl) (y_quo rfl rfl (by omega) (by omega)) .free rfl ?_
        refine d_put (t := 89) rfl (v' := .int .i64 (q : Nat)) (by rw [hq]) ?_
        refine d_take 43 rfl (by kernel_rfl) rfl (by first | exact fun _ h => h | exact fun _ h => h.er 0 rfl | exact fun _ h => h.er 1 rfl | exact fun _ h => h.er 2 rfl | exact fun _ h => h.er 3 rfl | exact fun _ h => h.er 4 rfl | exact fun _ h => h.er 5 rfl | exact fun _ h => h.er 6 rfl) (y_arith rfl rfl rfl (by omega)) .free rfl ?_
        refine d_take 44 rfl (by kernel_rfl) rfl (by first | exact fun _ h => h | exact fun _ h => h.er 0 rfl | exact fun _ h => h.er 1 rfl | exact fun _ h => h.er 2 rfl | exact fun _ h => h.er 3 rfl | exact fun _ h => h.er 4 rfl | exact fun _ h => h.er 5 rfl | exact fun _ h => h.er 6 rfl) (y_arith rfl rfl rfl (by omega)) .free rfl ?_
        refine d_take 45 rfl (by kernel_rfl) rfl (by first | exact fun _ h => h | exact fun _ h => h.er 0 rfl | exact fun _ h => h.er 1 rfl | exact fun _ h => h.er 2 rfl | exact fun _ h => h.er 3 rfl | exact fun _ h => h.er 4 rfl | exact fun _ h => h.er 5 rfl | exact fun _ h => h.er 6 rfl) (y_assign rfl) .free rfl ?_
        refine d_done (by kernel_rfl) ?_
        refine s_seq ?_
        obtain ⟨m, hm, hm2⟩ : ∃ m : Nat, (m : Int) = ↑u1 * 131 + ↑u2 * 1117 + ↑p * 29 + ↑q * 53 ∧ m ≤ 1152921504606846976 := ⟨u1 * 131 + u2 * 1117 + p * 29 + q * 53, by omega, by omega⟩
        refine s_put (t := 6) (v' := .int .i64 (m : Nat)) rfl (by congr 1; omega) ?_
        refine o_enter rfl ?_
        refine o_move rfl .free rfl ?_
        refine o_move rfl .free rfl ?_
        refine o_quo (b := 64) rfl rfl (by omega) (by omega) .free rfl ?_
        refine o_xor rfl rfl (by omega) (by omega) .free rfl ?_
        refine o_assign rfl .free rfl ?_
        refine o_done ?_
        refine s_seq ?_
        refine o_enter rfl ?_
        refine o_move rfl .free rfl ?_
        refine o_move rfl .free rfl ?_
        refine o_rem rfl rfl (by omega) .free rfl ?_
        refine o_assign rfl .free rfl ?_
        refine o_done ?_
        refine s_ret (.tmp rfl .nil) ?_
        exact ⟨I, _, .refl _, fun _ h => h, _, rfl, rfl, rfl, .inl (Nat.mod_lt _ (by omega))⟩
end Go.Proofs.Ythfkmfacmijbpaa
