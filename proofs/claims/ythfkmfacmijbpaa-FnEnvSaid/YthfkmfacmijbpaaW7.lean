
/- Lists of texts; environments. No conditions. -/
import Derived.Test.YthfkmfacmijbpaaW6
namespace Go.Proofs.Ythfkmfacmijbpaa
set_option maxRecDepth 100000
set_option linter.unusedVariables false
set_option linter.unusedSimpArgs false

def sv (s : Txt) : Value := .string (str s)
structure Strs (I : Heap) (oa : Option Addr) (l : List Txt) (c : Nat) : Prop where
  still : ∀ x, oa = some x → Still I x (l.map sv)
  nil : oa = none → l = []
  cap : l.length ≤ c
  len : l.length ≤ maxN
  each : ∀ s ∈ l, s.length ≤ maxN
theorem Strs.mono {I I' : Heap} {oa : Option Addr} {l : List Txt} {c : Nat} (hle : HLe I I') (h : Strs I oa l c) : Strs I' oa l c :=
  ⟨fun x hx => (h.still x hx).mono hle, h.nil, h.cap, h.len, h.each⟩
theorem Strs.at {I : Heap} {oa : Option Addr} {l : List Txt} {c : Nat} (h : Strs I oa l c) (i : Nat) (hi : i < l.length) : ∃ x, oa = some x ∧ Still I (x.add (i * 1)) [.string (str l[i])] := by
  cases oa with
  | none => have := h.nil rfl; subst this; simp at hi
  | some x =>
    refine ⟨x, rfl, (h.still x rfl).part (i * 1) ?_⟩
    intro j hj
    obtain rfl : j = 0 := by simpa using hj
    simp [hi, sv]

/-- Where a text stands last among the first ones. -/
def lastAt (l : List Txt) (s : Txt) : Nat → Option Nat
  | 0 => none
  | n + 1 => if l.getD n [] = s then some n else lastAt l s n
def lastIdx (l : List Txt) (s : Txt) : Option Nat := lastAt l s l.length
theorem lastAt_lt {l : List Txt} {s : Txt} : ∀ {n i : Nat}, lastAt l s n = some i → i < n ∧ l.getD i [] = s := by
  intro n
  induction n with
  | zero => intro i h; simp [lastAt] at h
  | succ n ih =>
    intro i h
    simp only [lastAt] at h
    split at h
    · simp at h; subst h; exact ⟨by omega, by assumption⟩
    · have := ih h; exact ⟨by omega, this.2⟩
def idxVal : Option Nat → Int
  | some i => i
  | none => -1

theorem f_lastIndex {I : Heap} {oa : Option Addr} {l : List Txt} {c : Nat} (h : Strs I oa l c) (s : Txt) (L : Own) : Fun Try.prog 23 [.slice oa l.length c, .string (str s)] I L (Only (.int .i64 (idxVal (lastIdx l s))) I L) := by
  have hlen := h.len
  unfold maxN at hlen
  refine fun_intro (by simp) ?_
  refine s_seq ?_
  refine o_enter rfl ?_
  refine o_assign rfl .free rfl ?_
  refine o_done ?_
  refine s_seq ?_
  refine s_seq ?_
  refine o_enter rfl ?_
  refine o_move rfl .free rfl ?_
  refine o_len_slice rfl .free rfl ?_
  refine o_arith rfl rfl rfl (by omega) .free rfl ?_
  refine o_assign rfl .free rfl ?_
  refine o_done ?_
  refine s_block ?_
  refine s_while (X := Nat) (fun n => n) (fun n => [(0, .slice oa l.length c), (1, .string (str s)), (5, .int .i64 ((n : Int) - 1))]) (fun _ => I) (fun _ => L) (fun n => n ≤ l.length ∧ lastIdx l s = lastAt l s n) l.length ⟨Nat.le_refl _, rfl⟩ ⟨rfl, rfl, rfl, trivial⟩ (by first | exact fun _ h => h | exact fun _ h => h.drop | exact fun _ h => h.drop.drop | exact fun _ h => h.drop.drop.drop | exact fun _ h => h.drop.drop.drop.drop | exact fun _ h => h.drop.drop.drop.drop.drop | exact fun _ h => h.drop.drop.drop.drop.drop.drop) ?_
  rintro n ⟨hn, hl⟩ ih
  refine s_seq ?_
  refine s_seq ?_
  refine o_enter rfl ?_
  refine o_move rfl .free rfl ?_
  refine o_cmp rfl rfl rfl .free rfl ?_
  refine o_done ?_
  first | refine s_if rfl ?_ ?_ | refine s_ifn rfl ?_ ?_ | refine s_cond rfl ?_ ?_
  · intro c0
    obtain ⟨m, rfl⟩ : ∃ m, n = m + 1 := ⟨n - 1, by omega⟩
    obtain ⟨x, hx, hst⟩ := h.at m (by omega)
    refine s_put (t := 5) (v' := .int .i64 (m : Nat)) rfl (by congr 1; omega) ?_
    simp only [lastAt, List.getD_eq_getElem?_getD, List.getElem?_eq_getElem (show m < l.length by omega), Option.getD_some] at hl
    refine s_skip ?_
    refine s_seq ?_
    refine s_block ?_
    refine s_seq ?_
    refine o_enter rfl ?_
    refine o_move rfl .free rfl ?_
    refine o_move rfl .free rfl ?_
    refine o_indexAddr' rfl rfl _ rfl (by first | omega | (simp; done) | (simp; omega) | (simp at *; omega)) (by first | rfl | assumption) .free rfl ?_
    refine o_load rfl (by first | exact loads_still1 (by assumption) rfl | exact loads_ownS (by first | exact .head _ | exact .tail _ (.head _) | exact .tail _ (.tail _ (.head _)) | exact .tail _ (.tail _ (.tail _ (.head _))) | exact .tail _ (.tail _ (.tail _ (.tail _ (.head _)))) | exact .tail _ (.tail _ (.tail _ (.tail _ (.tail _ (.head _))))) | exact .tail _ (.tail _ (.tail _ (.tail _ (.tail _ (.tail _ (.head _))))))) (by rfl) | exact loads_own1 (by first | exact .head _ | exact .tail _ (.head _) | exact .tail _ (.tail _ (.head _)) | exact .tail _ (.tail _ (.tail _ (.head _))) | exact .tail _ (.tail _ (.tail _ (.tail _ (.head _)))) | exact .tail _ (.tail _ (.tail _ (.tail _ (.tail _ (.head _))))) | exact .tail _ (.tail _ (.tail _ (.tail _ (.tail _ (.tail _ (.head _))))))) (by rfl) rfl | exact loads_stillS (by assumption) (by rfl) | exact loads_stillF (by assumption) (by rfl) rfl) .free rfl ?_
    refine o_move rfl .free rfl ?_
    refine o_cmps rfl rfl rfl .free rfl ?_
    refine o_done ?_
    first | refine s_if rfl ?_ ?_ | refine s_ifn rfl ?_ ?_ | refine s_cond rfl ?_ ?_
    · intro c1
      refine s_seq ?_
      refine o_enter rfl ?_
      refine o_move rfl .free rfl ?_
      refine o_assign rfl .free rfl ?_
      refine o_done ?_
      refine s_ret (.tmp rfl .nil) ?_
      refine done_only rfl (by first | exact fun _ h => h | exact fun _ h => h.drop | exact fun _ h => h.drop.drop | exact fun _ h => h.drop.drop.drop | exact fun _ h => h.drop.drop.drop.drop | exact fun _ h => h.drop.drop.drop.drop.drop | exact fun _ h => h.drop.drop.drop.drop.drop.drop) ?_
      rw [hl, if_pos (by assumption)]; rfl
    · intro c1
      refine s_skip ?_
      refine s_inBlock ?_
      refine o_enter rfl ?_
      refine o_move rfl .free rfl ?_
      refine o_arith rfl rfl rfl (by omega) .free rfl ?_
      refine o_assign rfl .free rfl ?_
      refine o_done ?_
      refine s_env (E' := [(0, .slice oa l.length c), (1, .string (str s)), (5, .int .i64 ((m : Int) - 1))]) ⟨rfl, rfl, rfl, trivial⟩ (ih m ⟨by omega, ?_⟩ (by omega))
      rw [hl, if_neg (by assumption)]
  · intro c0
    refine s_exit rfl ?_
    refine s_seq ?_
    refine o_enter rfl ?_
    refine o_assign rfl .free rfl ?_
    refine o_done ?_
    refine s_ret (.tmp rfl .nil) ?_
    refine done_only rfl (by first | exact fun _ h => h | exact fun _ h => h.drop | exact fun _ h => h.drop.drop | exact fun _ h => h.drop.drop.drop | exact fun _ h => h.drop.drop.drop.drop | exact fun _ h => h.drop.drop.drop.drop.drop | exact fun _ h => h.drop.drop.drop.drop.drop.drop) ?_
    obtain rfl : n = 0 := by omega
    rw [hl]; rfl

/-- The type that stands last for a name, or "". -/
def lookTxt (names types : List Txt) (s : Txt) : Txt := match lastIdx names s with
  | some i => types.getD i []
  | none => []
def isEnv (names types : List Txt) : Bool := decide (names.length ≤ 8) && decide (names.length = types.length) && names.all isName && types.all fun s => (typeOf s).isSome
theorem all_take {α : Type} {p : α → Bool} {l : List α} {i : Nat} (h : (l.take i).all p = true) (hi : i < l.length) (hp : p l[i] = true) : (l.take (i + 1)).all p = true := by
  rw [List.take_succ_eq_append_getElem hi, List.all_append, h]; simp [hp]
theorem all_not {α : Type} {p : α → Bool} {l : List α} {i : Nat} (hi : i < l.length) (hp : p l[i] = false) : l.all p = false := by
  rw [List.all_eq_false]; exact ⟨l[i], List.getElem_mem hi, by simp [hp]⟩
theorem g_EnvValid {I : Heap} {oa ob : Option Addr} {l m : List Txt} {c c' : Nat} (h : Strs I oa l c) (h' : Strs I ob m c') (L : Own) :
    Fun Try.prog 6 [.slice oa l.length c, .slice ob m.length c'] I L (fun v I' L' => v = .bool (isEnv l m) ∧ L = L') := by
  have hlen := h.len
  have hlen' := h'.len
  unfold maxN at hlen hlen'
  refine fun_intro (by simp) ?_
  refine s_seq ?_
  refine o_enter rfl ?_
  refine o_assign rfl .free rfl ?_
  refine o_done ?_
  refine s_seq ?_
  refine s_seq ?_
  refine o_enter rfl ?_
  refine o_assign rfl .free rfl ?_
  refine o_done ?_
  refine s_block ?_
  refine s_while (X := Nat) (fun i => l.length - i) (fun i => [(0, .slice oa l.length c), (1, .slice ob m.length c'), (5, .int .i64 (i : Nat))]) (fun _ => I) (fun _ => L) (fun i => i ≤ l.length ∧ (l.take i).all isName = true) 0 ⟨by omega, by simp⟩ ⟨rfl, rfl, rfl, trivial⟩ (by first | exact fun _ h => h | exact fun _ h => h.drop | exact fun _ h => h.drop.drop | exact fun _ h => h.drop.drop.drop | exact fun _ h => h.drop.drop.drop.drop | exact fun _ h => h.drop.drop.drop.drop.drop | exact fun _ h => h.drop.drop.drop.drop.drop.drop) ?_
  rintro i ⟨hi, hall⟩ ih
  refine s_seq ?_
  refine s_seq ?_
  refine o_enter rfl ?_
  refine o_move rfl .free rfl ?_
  refine o_move rfl .free rfl ?_
  refine o_len_slice rfl .free rfl ?_
  refine o_cmp rfl rfl rfl .free rfl ?_
  refine o_done ?_
  first | refine s_if rfl ?_ ?_ | refine s_ifn rfl ?_ ?_ | refine s_cond rfl ?_ ?_
  · intro c0
    obtain ⟨x, hx, hst⟩ := h.at i (by omega)
    have he := h.each _ (List.getElem_mem (show i < l.length by omega))
    refine s_skip ?_
    refine s_seq ?_
    refine s_block ?_
    refine s_seq ?_
    refine o_enter rfl ?_
    refine o_move rfl .free rfl ?_
    refine o_move rfl .free rfl ?_
    refine o_indexAddr' rfl rfl _ rfl (by first | omega | (simp; done) | (simp; omega) | (simp at *; omega)) (by first | rfl | assumption) .free rfl ?_
    refine o_load rfl (by first | exact loads_still1 (by assumption) rfl | exact loads_ownS (by first | exact .head _ | exact .tail _ (.head _) | exact .tail _ (.tail _ (.head _)) | exact .tail _ (.tail _ (.tail _ (.head _))) | exact .tail _ (.tail _ (.tail _ (.tail _ (.head _)))) | exact .tail _ (.tail _ (.tail _ (.tail _ (.tail _ (.head _))))) | exact .tail _ (.tail _ (.tail _ (.tail _ (.tail _ (.tail _ (.head _))))))) (by rfl) | exact loads_own1 (by first | exact .head _ | exact .tail _ (.head _) | exact .tail _ (.tail _ (.head _)) | exact .tail _ (.tail _ (.tail _ (.head _))) | exact .tail _ (.tail _ (.tail _ (.tail _ (.head _)))) | exact .tail _ (.tail _ (.tail _ (.tail _ (.tail _ (.head _))))) | exact .tail _ (.tail _ (.tail _ (.tail _ (.tail _ (.tail _ (.head _))))))) (by rfl) rfl | exact loads_stillS (by assumption) (by rfl) | exact loads_stillF (by assumption) (by rfl) rfl) .free rfl ?_
    refine o_call rfl .free rfl (g_l2Name l[i] he _ _) ?_
    rintro _ _ _ _ ⟨rfl, rfl, rfl⟩
    refine o_not rfl .free rfl ?_
    refine o_done ?_
    first | refine s_if rfl ?_ ?_ | refine s_ifn rfl ?_ ?_ | refine s_cond rfl ?_ ?_
    · intro c1
      refine s_seq ?_
      refine o_enter rfl ?_
      refine o_assign rfl .free rfl ?_
      refine o_done ?_
      refine s_ret (.tmp rfl .nil) ?_
      refine ⟨I, L, .refl _, fun _ h => h, ?_, rfl⟩
      have := all_not (p := isName) (show i < l.length by omega) (by simpa using c1)
      simp [retOne, isEnv, this]
    · intro c1
      refine s_skip ?_
      refine s_inBlock ?_
      refine o_enter rfl ?_
      refine o_move rfl .free rfl ?_
      refine o_arith rfl rfl rfl (by omega) .free rfl ?_
      refine o_assign rfl .free rfl ?_
      refine o_done ?_
      refine s_env (E' := [(0, .slice oa l.length c), (1, .slice ob m.length c'), (5, .int .i64 ((i + 1 : Nat)))]) ⟨rfl, rfl, rfl, trivial⟩ (ih (i + 1) ⟨by omega, all_take hall (by omega) (by simpa using c1)⟩ (by omega))
  · intro c0
    obtain rfl : i = l.length := by omega
    rw [List.take_length] at hall
    refine s_exit rfl ?_
    refine s_seq ?_
    refine s_seq ?_
    refine o_enter rfl ?_
    refine o_assign rfl .free rfl ?_
    refine o_done ?_
    refine s_block ?_
    refine s_while (X := Heap × Nat) (fun y => m.length - y.2) (fun y => [(0, .slice oa l.length c), (1, .slice ob m.length c'), (6, .int .i64 (y.2 : Nat))]) (fun y => y.1) (fun _ => L) (fun y => HLe I y.1 ∧ y.2 ≤ m.length ∧ (m.take y.2).all (fun s => (typeOf s).isSome) = true) (I, 0) ⟨.refl _, by simp, by simp⟩ ⟨rfl, rfl, rfl, trivial⟩ (fun _ h => h) ?_
    rintro ⟨J, j⟩ ⟨hle, hj, hallj⟩ ih2
    simp only at hle hj hallj ih2
    refine s_seq ?_
    refine s_seq ?_
    refine o_enter rfl ?_
    refine o_move rfl .free rfl ?_
    refine o_move rfl .free rfl ?_
    refine o_len_slice rfl .free rfl ?_
    refine o_cmp rfl rfl rfl .free rfl ?_
    refine o_done ?_
    first | refine s_if rfl ?_ ?_ | refine s_ifn rfl ?_ ?_ | refine s_cond rfl ?_ ?_
    · intro c2
      obtain ⟨x, hx, hst⟩ := (h'.mono hle).at j (by omega)
      have he := h'.each _ (List.getElem_mem (show j < m.length by omega))
      refine s_skip ?_
      refine s_seq ?_
      refine s_block ?_
      refine s_seq ?_
      refine o_enter rfl ?_
      refine o_move rfl .free rfl ?_
      refine o_move rfl .free rfl ?_
      refine o_indexAddr' rfl rfl _ rfl (by first | omega | (simp; done) | (simp; omega) | (simp at *; omega)) (by first | rfl | assumption) .free rfl ?_
      refine o_load rfl (by first | exact loads_still1 (by assumption) rfl | exact loads_ownS (by first | exact .head _ | exact .tail _ (.head _) | exact .tail _ (.tail _ (.head _)) | exact .tail _ (.tail _ (.tail _ (.head _))) | exact .tail _ (.tail _ (.tail _ (.tail _ (.head _)))) | exact .tail _ (.tail _ (.tail _ (.tail _ (.tail _ (.head _))))) | exact .tail _ (.tail _ (.tail _ (.tail _ (.tail _ (.tail _ (.head _))))))) (by rfl) | exact loads_own1 (by first | exact .head _ | exact .tail _ (.head _) | exact .tail _ (.tail _ (.head _)) | exact .tail _ (.tail _ (.tail _ (.head _))) | exact .tail _ (.tail _ (.tail _ (.tail _ (.head _)))) | exact .tail _ (.tail _ (.tail _ (.tail _ (.tail _ (.head _))))) | exact .tail _ (.tail _ (.tail _ (.tail _ (.tail _ (.tail _ (.head _))))))) (by rfl) rfl | exact loads_stillS (by assumption) (by rfl) | exact loads_stillF (by assumption) (by rfl) rfl) .free rfl ?_
      refine o_call rfl .free rfl (g_TypeValid m[j] he _ _) ?_
      rintro _ J2 _ hle2 ⟨rfl, rfl⟩
      refine o_not rfl .free rfl ?_
      refine o_done ?_
      first | refine s_if rfl ?_ ?_ | refine s_ifn rfl ?_ ?_ | refine s_cond rfl ?_ ?_
      · intro c3
        refine s_seq ?_
        refine o_enter rfl ?_
        refine o_assign rfl .free rfl ?_
        refine o_done ?_
        refine s_ret (.tmp rfl .nil) ?_
        refine ⟨J2, L, hle.trans hle2, fun _ h => h, ?_, rfl⟩
        have := all_not (p := fun s => (typeOf s).isSome) (show j < m.length by omega) (by simpa using c3)
        simp [retOne, isEnv, this]
      · intro c3
        refine s_skip ?_
        refine s_inBlock ?_
        refine o_enter rfl ?_
        refine o_move rfl .free rfl ?_
        refine o_arith rfl rfl rfl (by omega) .free rfl ?_
        refine o_assign rfl .free rfl ?_
        refine o_done ?_
        refine s_env (E' := [(0, .slice oa l.length c), (1, .slice ob m.length c'), (6, .int .i64 ((j + 1 : Nat)))]) ⟨rfl, rfl, rfl, trivial⟩ (ih2 (J2, j + 1) ⟨hle.trans hle2, by simp only; omega, all_take hallj (by omega) (by simpa using c3)⟩ (by simp only; omega))
    · intro c2
      obtain rfl : j = m.length := by omega
      rw [List.take_length] at hallj
      refine s_exit rfl ?_
      refine s_seq ?_
      refine o_enter rfl ?_
      refine o_move rfl .free rfl ?_
      refine o_len_slice rfl .free rfl ?_
      refine o_move rfl .free rfl ?_
      refine o_len_slice rfl .free rfl ?_
      refine o_cmp rfl rfl rfl .free rfl ?_
      refine o_move rfl .free rfl ?_
      first | refine g_if rfl rfl ?_ ?_ | refine g_ifn rfl rfl ?_ ?_ | refine g_b rfl rfl ?_ ?_
      · intro g11_6
        refine o_move rfl (.met rfl rfl) rfl ?_
        refine o_len_slice rfl (.met rfl rfl) rfl ?_
        refine o_cmp rfl rfl rfl (.met rfl rfl) rfl ?_
        refine o_pick_true rfl rfl .free rfl ?_
        refine o_assign rfl .free rfl ?_
        refine o_done ?_
        refine s_ret (.tmp rfl .nil) ?_
        refine ⟨J, L, hle, fun _ h => h, ?_, rfl⟩
        refine congrArg Value.bool ?_
        simp only [isEnv, hall, hallj]
        rw [Bool.eq_iff_iff]; simp; omega
      · intro g11_6
        refine o_skip rfl rfl rfl ?_
        refine o_skip rfl rfl rfl ?_
        refine o_skip rfl rfl rfl ?_
        refine o_pick_false rfl rfl .free rfl ?_
        refine o_assign rfl .free rfl ?_
        refine o_done ?_
        refine s_ret (.tmp rfl .nil) ?_
        refine ⟨J, L, hle, fun _ h => h, ?_, rfl⟩
        refine congrArg Value.bool ?_
        simp only [isEnv, hall, hallj]
        rw [Bool.eq_iff_iff]; simp; omega
end Go.Proofs.Ythfkmfacmijbpaa
