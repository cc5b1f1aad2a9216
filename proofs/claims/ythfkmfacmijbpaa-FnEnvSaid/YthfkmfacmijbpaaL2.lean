
/- The walk of the statement 'FnEnv'. No conditions. -/
import Derived.Test.YthfkmfacmijbpaaP0
import Derived.Test.YthfkmfacmijbpaaD2
import Derived.Test.YthfkmfacmijbpaaH1
namespace Go.Proofs.Ythfkmfacmijbpaa
set_option maxRecDepth 100000
set_option linter.unusedVariables false
set_option linter.unusedSimpArgs false

def lastTxt (l m : List Txt) (s : Txt) (k : Nat) : Txt := match lastAt l s k with
  | some j => m.getD j []
  | none => []
theorem lastAt_some {l : List Txt} {s : Txt} : ∀ {n i : Nat}, i < n → l.getD i [] = s → ∃ j, lastAt l s n = some j := by
  intro n
  induction n with
  | zero => intro i h; omega
  | succ n ih =>
    intro i hi hs
    simp only [lastAt]
    split
    · exact ⟨_, rfl⟩
    · rename_i hne
      exact ih (i := i) (by rcases Nat.lt_or_ge i n with h | h; exact h; exact absurd (by rw [show n = i by omega]; exact hs) hne) hs

theorem law_FnEnv {I : Heap} {oa : Option Addr} {code : List UInt8} {c : Nat} (h : Bytes I oa code c) (L : Own) :
    Fun Try.prog 3 [.slice oa code.length c] I L (YES L) := by
  have hlen := h.len
  refine fun_intro (by simp) ?_
  refine s_seq ?_
  refine o_enter rfl ?_
  refine o_assign rfl .free rfl ?_
  refine o_done ?_
  refine s_seq ?_
  refine s_seq ?_
  refine o_enter rfl ?_
  refine o_move rfl .free rfl ?_
  refine o_len_slice rfl .free rfl ?_
  refine o_cmp rfl rfl rfl .free rfl ?_
  refine o_done ?_
  first | refine s_if rfl ?_ ?_ | refine s_ifn rfl ?_ ?_ | refine s_cond rfl ?_ ?_
  · intro c0
    refine s_seq ?_
    refine o_enter rfl ?_
    refine o_assign rfl .free rfl ?_
    refine o_done ?_
    refine s_ret (.tmp rfl .nil) ?_
    exact ⟨I, L, .refl _, fun _ h => h, rfl, rfl⟩
  · intro c0
    refine s_skip ?_
    refine s_seq ?_
    refine o_enter rfl ?_
    refine o_move rfl .free rfl ?_
    refine o_call rfl .free rfl (g_DrawEnvValid h _) ?_
    rintro _ J1 _ e1 ⟨o1, l, ca, o2, m, cb, rfl, k1, k2, m1, m2, m3, m4, rfl⟩
    refine o_move rfl .free rfl ?_
    refine o_extract rfl rfl .free rfl ?_
    refine o_extract rfl rfl .free rfl ?_
    refine o_assign rfl .free rfl ?_
    refine o_assign rfl .free rfl ?_
    refine o_done ?_
    refine s_seq ?_
    refine o_enter rfl ?_
    refine o_move rfl .free rfl ?_
    refine o_move rfl .free rfl ?_
    refine o_call rfl .free rfl (f_EnvValid k1 k2 _) ?_
    rintro _ J2 _ e2 ⟨rfl, rfl⟩
    refine o_assign rfl .free rfl ?_
    refine o_done ?_
    refine s_seq ?_
    refine o_enter rfl ?_
    refine o_move rfl .free rfl ?_
    refine o_move rfl .free rfl ?_
    refine o_call rfl .free rfl (g_EnvValid (k1.mono e2) (k2.mono e2) _) ?_
    rintro _ J3 _ e3 ⟨rfl, rfl⟩
    refine o_assign rfl .free rfl ?_
    refine o_done ?_
    refine s_seq ?_
    refine s_seq ?_
    refine o_enter rfl ?_
    refine o_move rfl .free rfl ?_
    refine o_move rfl .free rfl ?_
    refine o_cmpb rfl rfl rfl .free rfl ?_
    refine o_move rfl .free rfl ?_
    first | refine g_fp rfl rfl (by simp) ?_ | refine g_fn rfl rfl (by simp) ?_
    refine o_move rfl (.met rfl rfl) rfl ?_
    refine o_not rfl (.met rfl rfl) rfl ?_
    refine o_pick_false rfl rfl .free rfl ?_
    refine o_done ?_
    first | refine s_if rfl ?_ ?_ | refine s_ifn rfl ?_ ?_ | refine s_cond rfl ?_ ?_
    · intro c1
      refine s_seq ?_
      refine o_enter rfl ?_
      refine o_move rfl .free rfl ?_
      refine o_move rfl .free rfl ?_
      refine o_cmpb rfl rfl rfl .free rfl ?_
      refine o_assign rfl .free rfl ?_
      refine o_done ?_
      refine s_ret (.tmp rfl .nil) ?_
      exact ⟨J3, L, (e1.trans e2).trans e3, fun _ h => h, by simp [retOne], rfl⟩
    · intro c1
      refine s_skip ?_
      refine s_seq ?_
      refine s_seq ?_
      refine o_enter rfl ?_
      refine o_assign rfl .free rfl ?_
      refine o_done ?_
      refine s_block ?_
      have he : isEnv l m = true := by simpa using c1
      have hlm := (isEnv_len he).2.1
      have k1 := k1.mono (e2.trans e3)
      have k2 := k2.mono (e2.trans e3)
      refine s_while (X := Heap × Nat) (fun x => l.length - x.2) (fun x => [(3, .slice o1 l.length ca), (4, .slice o2 m.length cb), (7, .int .i64 (x.2 : Nat))]) (fun x => x.1) (fun _ => L) (fun x => HLe J3 x.1 ∧ x.2 ≤ l.length) (J3, 0) ⟨.refl _, by simp⟩ ⟨rfl, rfl, rfl, trivial⟩ (fun _ h => h) ?_
      rintro ⟨J, i⟩ ⟨hle, hi⟩ ih
      simp only at hle hi ih
      refine s_seq ?_
      refine s_seq ?_
      refine o_enter rfl ?_
      refine o_move rfl .free rfl ?_
      refine o_move rfl .free rfl ?_
      refine o_len_slice rfl .free rfl ?_
      refine o_cmp rfl rfl rfl .free rfl ?_
      refine o_done ?_
      first | refine s_if rfl ?_ ?_ | refine s_ifn rfl ?_ ?_ | refine s_cond rfl ?_ ?_
      · intro c2
        simp only at c2
        obtain ⟨x, hx, hst⟩ := (k1.mono hle).at i (by omega)
        refine s_skip ?_
        refine s_seq ?_
        refine s_block ?_
        refine s_seq ?_
        refine o_enter rfl ?_
        refine o_move rfl .free rfl ?_
        refine o_move rfl .free rfl ?_
        refine o_move rfl .free rfl ?_
        refine o_move rfl .free rfl ?_
        refine o_indexAddr' rfl rfl _ rfl (by first | omega | (simp; done) | (simp; omega) | (simp at *; omega)) (by first | rfl | assumption) .free rfl ?_
        refine o_load rfl (by first | exact loads_still1 (by assumption) rfl | exact loads_ownS (by first | exact .head _ | exact .tail _ (.head _) | exact .tail _ (.tail _ (.head _)) | exact .tail _ (.tail _ (.tail _ (.head _))) | exact .tail _ (.tail _ (.tail _ (.tail _ (.head _)))) | exact .tail _ (.tail _ (.tail _ (.tail _ (.tail _ (.head _))))) | exact .tail _ (.tail _ (.tail _ (.tail _ (.tail _ (.tail _ (.head _))))))) (by rfl) | exact loads_own1 (by first | exact .head _ | exact .tail _ (.head _) | exact .tail _ (.tail _ (.head _)) | exact .tail _ (.tail _ (.tail _ (.head _))) | exact .tail _ (.tail _ (.tail _ (.tail _ (.head _)))) | exact .tail _ (.tail _ (.tail _ (.tail _ (.tail _ (.head _))))) | exact .tail _ (.tail _ (.tail _ (.tail _ (.tail _ (.tail _ (.head _))))))) (by rfl) rfl | exact loads_stillS (by assumption) (by rfl) | exact loads_stillF (by assumption) (by rfl) rfl) .free rfl ?_
        refine o_call rfl .free rfl (f_EnvLook (k1.mono hle) (k2.mono hle) l[i] _) ?_
        rintro _ J4 _ e4 ⟨rfl, rfl⟩
        have k3 := k1.mono (hle.trans e4)
        have k4 := k2.mono (hle.trans e4)
        obtain ⟨y, hy, hst2⟩ := k3.at i (by omega)
        refine o_move rfl .free rfl ?_
        refine o_extract rfl rfl .free rfl ?_
        refine o_extract rfl rfl .free rfl ?_
        refine o_assign rfl .free rfl ?_
        refine o_assign rfl .free rfl ?_
        refine o_done ?_
        refine s_seq ?_
        refine o_enter rfl ?_
        refine o_assign rfl .free rfl ?_
        refine o_done ?_
        refine s_seq ?_
        refine s_seq ?_
        refine o_enter rfl ?_
        refine o_assign rfl .free rfl ?_
        refine o_done ?_
        refine s_block ?_
        refine s_while (X := Nat) (fun x => l.length - x) (fun x => [(3, .slice o1 l.length ca), (4, .slice o2 m.length cb), (7, .int .i64 (i : Nat)), (8, .string (str ((envLook l m l[i]).getD []))), (9, .bool (envLook l m l[i]).isSome), (10, .string (str (lastTxt l m l[i] x))), (11, .int .i64 (x : Nat))]) (fun _ => J4) (fun _ => L) (fun x => x ≤ l.length) 0 (by simp) ⟨rfl, rfl, rfl, rfl, rfl, rfl, rfl, trivial⟩ (fun _ h => h) ?_
        rintro k hk ih2
        refine s_seq ?_
        refine s_seq ?_
        refine o_enter rfl ?_
        refine o_move rfl .free rfl ?_
        refine o_move rfl .free rfl ?_
        refine o_len_slice rfl .free rfl ?_
        refine o_cmp rfl rfl rfl .free rfl ?_
        refine o_done ?_
        first | refine s_if rfl ?_ ?_ | refine s_ifn rfl ?_ ?_ | refine s_cond rfl ?_ ?_
        · intro c3
          obtain ⟨z, hz, hst3⟩ := k3.at k (by omega)
          obtain rfl : y = z := by rw [hy] at hz; exact Option.some.inj hz
          obtain ⟨z2, hz2, hst4⟩ := k4.at k (by omega)
          refine s_skip ?_
          refine s_seq ?_
          refine s_block ?_
          refine s_seq ?_
          refine d_but 0 9 rfl rfl ?_
          refine d_take 0 rfl (by kernel_rfl) rfl (by first | exact fun _ h => h | exact fun _ h => h.er 0 rfl | exact fun _ h => h.er 1 rfl | exact fun _ h => h.er 2 rfl | exact fun _ h => h.er 3 rfl | exact fun _ h => h.er 4 rfl | exact fun _ h => h.er 5 rfl | exact fun _ h => h.er 6 rfl) (y_move rfl) .free rfl ?_
          refine d_take 1 rfl (by kernel_rfl) rfl (by first | exact fun _ h => h | exact fun _ h => h.er 0 rfl | exact fun _ h => h.er 1 rfl | exact fun _ h => h.er 2 rfl | exact fun _ h => h.er 3 rfl | exact fun _ h => h.er 4 rfl | exact fun _ h => h.er 5 rfl | exact fun _ h => h.er 6 rfl) (y_move rfl) .free rfl ?_
          refine d_take 2 rfl (by kernel_rfl) rfl (by first | exact fun _ h => h | exact fun _ h => h.er 0 rfl | exact fun _ h => h.er 1 rfl | exact fun _ h => h.er 2 rfl | exact fun _ h => h.er 3 rfl | exact fun _ h => h.er 4 rfl | exact fun _ h => h.er 5 rfl | exact fun _ h => h.er 6 rfl) (y_indexAddr' rfl rfl _ rfl (by first | omega | (simp; done) | (simp; omega) | (simp at *; omega)) (by first | rfl | assumption)) .free rfl ?_
          refine d_take 3 rfl (by kernel_rfl) rfl (by first | exact fun _ h => h | exact fun _ h => h.er 0 rfl | exact fun _ h => h.er 1 rfl | exact fun _ h => h.er 2 rfl | exact fun _ h => h.er 3 rfl | exact fun _ h => h.er 4 rfl | exact fun _ h => h.er 5 rfl | exact fun _ h => h.er 6 rfl) (y_load rfl (by first | exact loads_still1 (by assumption) rfl | exact loads_ownS (by first | exact .head _ | exact .tail _ (.head _) | exact .tail _ (.tail _ (.head _)) | exact .tail _ (.tail _ (.tail _ (.head _))) | exact .tail _ (.tail _ (.tail _ (.tail _ (.head _)))) | exact .tail _ (.tail _ (.tail _ (.tail _ (.tail _ (.head _))))) | exact .tail _ (.tail _ (.tail _ (.tail _ (.tail _ (.tail _ (.head _))))))) (by rfl) | exact loads_own1 (by first | exact .head _ | exact .tail _ (.head _) | exact .tail _ (.tail _ (.head _)) | exact .tail _ (.tail _ (.tail _ (.head _))) | exact .tail _ (.tail _ (.tail _ (.tail _ (.head _)))) | exact .tail _ (.tail _ (.tail _ (.tail _ (.tail _ (.head _))))) | exact .tail _ (.tail _ (.tail _ (.tail _ (.tail _ (.tail _ (.head _))))))) (by rfl) rfl | exact loads_stillS (by assumption) (by rfl) | exact loads_stillF (by assumption) (by rfl) rfl)) .free rfl ?_
          refine d_take 4 rfl (by kernel_rfl) rfl (by first | exact fun _ h => h | exact fun _ h => h.er 0 rfl | exact fun _ h => h.er 1 rfl | exact fun _ h => h.er 2 rfl | exact fun _ h => h.er 3 rfl | exact fun _ h => h.er 4 rfl | exact fun _ h => h.er 5 rfl | exact fun _ h => h.er 6 rfl) (y_move rfl) .free rfl ?_
          refine d_take 5 rfl (by kernel_rfl) rfl (by first | exact fun _ h => h | exact fun _ h => h.er 0 rfl | exact fun _ h => h.er 1 rfl | exact fun _ h => h.er 2 rfl | exact fun _ h => h.er 3 rfl | exact fun _ h => h.er 4 rfl | exact fun _ h => h.er 5 rfl | exact fun _ h => h.er 6 rfl) (y_move rfl) .free rfl ?_
          refine d_take 6 rfl (by kernel_rfl) rfl (by first | exact fun _ h => h | exact fun _ h => h.er 0 rfl | exact fun _ h => h.er 1 rfl | exact fun _ h => h.er 2 rfl | exact fun _ h => h.er 3 rfl | exact fun _ h => h.er 4 rfl | exact fun _ h => h.er 5 rfl | exact fun _ h => h.er 6 rfl) (y_indexAddr' rfl rfl _ rfl (by first | omega | (simp; done) | (simp; omega) | (simp at *; omega)) (by first | rfl | assumption)) .free rfl ?_
          refine d_take 7 rfl (by kernel_rfl) rfl (by first | exact fun _ h => h | exact fun _ h => h.er 0 rfl | exact fun _ h => h.er 1 rfl | exact fun _ h => h.er 2 rfl | exact fun _ h => h.er 3 rfl | exact fun _ h => h.er 4 rfl | exact fun _ h => h.er 5 rfl | exact fun _ h => h.er 6 rfl) (y_load rfl (by first | exact loads_still1 (by assumption) rfl | exact loads_ownS (by first | exact .head _ | exact .tail _ (.head _) | exact .tail _ (.tail _ (.head _)) | exact .tail _ (.tail _ (.tail _ (.head _))) | exact .tail _ (.tail _ (.tail _ (.tail _ (.head _)))) | exact .tail _ (.tail _ (.tail _ (.tail _ (.tail _ (.head _))))) | exact .tail _ (.tail _ (.tail _ (.tail _ (.tail _ (.tail _ (.head _))))))) (by rfl) | exact loads_own1 (by first | exact .head _ | exact .tail _ (.head _) | exact .tail _ (.tail _ (.head _)) | exact .tail _ (.tail _ (.tail _ (.head _))) | exact .tail _ (.tail _ (.tail _ (.tail _ (.head _)))) | exact .tail _ (.tail _ (.tail _ (.tail _ (.tail _ (.head _))))) | exact .tail _ (.tail _ (.tail _ (.tail _ (.tail _ (.tail _ (.head _))))))) (by rfl) rfl | exact loads_stillS (by assumption) (by rfl) | exact loads_stillF (by assumption) (by rfl) rfl)) .free rfl ?_
          refine d_take 8 rfl (by kernel_rfl) rfl (by first | exact fun _ h => h | exact fun _ h => h.er 0 rfl | exact fun _ h => h.er 1 rfl | exact fun _ h => h.er 2 rfl | exact fun _ h => h.er 3 rfl | exact fun _ h => h.er 4 rfl | exact fun _ h => h.er 5 rfl | exact fun _ h => h.er 6 rfl) (y_cmps rfl rfl rfl) .free rfl ?_
          refine d_done (by kernel_rfl) ?_
          first | refine s_if rfl ?_ ?_ | refine s_ifn rfl ?_ ?_ | refine s_cond rfl ?_ ?_
          · intro c4
            refine o_enter rfl ?_
            refine o_move rfl .free rfl ?_
            refine o_move rfl .free rfl ?_
            refine o_indexAddr' rfl rfl _ rfl (by first | omega | (simp; done) | (simp; omega) | (simp at *; omega)) (by first | rfl | assumption) .free rfl ?_
            refine o_load rfl (by first | exact loads_still1 (by assumption) rfl | exact loads_ownS (by first | exact .head _ | exact .tail _ (.head _) | exact .tail _ (.tail _ (.head _)) | exact .tail _ (.tail _ (.tail _ (.head _))) | exact .tail _ (.tail _ (.tail _ (.tail _ (.head _)))) | exact .tail _ (.tail _ (.tail _ (.tail _ (.tail _ (.head _))))) | exact .tail _ (.tail _ (.tail _ (.tail _ (.tail _ (.tail _ (.head _))))))) (by rfl) | exact loads_own1 (by first | exact .head _ | exact .tail _ (.head _) | exact .tail _ (.tail _ (.head _)) | exact .tail _ (.tail _ (.tail _ (.head _))) | exact .tail _ (.tail _ (.tail _ (.tail _ (.head _)))) | exact .tail _ (.tail _ (.tail _ (.tail _ (.tail _ (.head _))))) | exact .tail _ (.tail _ (.tail _ (.tail _ (.tail _ (.tail _ (.head _))))))) (by rfl) rfl | exact loads_stillS (by assumption) (by rfl) | exact loads_stillF (by assumption) (by rfl) rfl) .free rfl ?_
            refine o_assign rfl .free rfl ?_
            refine o_done ?_
            refine s_inBlock ?_
            refine o_enter rfl ?_
            refine o_move rfl .free rfl ?_
            refine o_arith rfl rfl rfl (by omega) .free rfl ?_
            refine o_assign rfl .free rfl ?_
            refine o_done ?_
            first
              | (refine s_env (E' := [(3, .slice o1 l.length ca), (4, .slice o2 m.length cb), (7, .int .i64 (i : Nat)), (8, .string (str ((envLook l m l[i]).getD []))), (9, .bool (envLook l m l[i]).isSome), (10, .string (str m[k])), (11, .int .i64 ((k + 1 : Nat)))]) ⟨rfl, rfl, rfl, rfl, rfl, rfl, rfl, trivial⟩ ?_
                 have hk2 : k < l.length := by omega
                 have e : m[k] = lastTxt l m l[i] (k + 1) := by
                   have : l[k] = l[i] := by assumption
                   simp [lastTxt, lastAt, hk2, this, hlm ▸ hk2]
                 rw [e]
                 exact ih2 (k + 1) (by omega) (by omega))
              | (refine s_env (E' := [(3, .slice o1 l.length ca), (4, .slice o2 m.length cb), (7, .int .i64 (i : Nat)), (8, .string (str ((envLook l m l[i]).getD []))), (9, .bool (envLook l m l[i]).isSome), (10, .string (str (lastTxt l m l[i] k))), (11, .int .i64 ((k + 1 : Nat)))]) ⟨rfl, rfl, rfl, rfl, rfl, rfl, rfl, trivial⟩ ?_
                 have hk2 : k < l.length := by omega
                 have e : lastTxt l m l[i] k = lastTxt l m l[i] (k + 1) := by
                   have : ¬ l[k] = l[i] := by assumption
                   simp [lastTxt, lastAt, hk2, this]
                 rw [e]
                 exact ih2 (k + 1) (by omega) (by omega))
          · intro c4
            refine s_skip ?_
            refine s_inBlock ?_
            refine o_enter rfl ?_
            refine o_move rfl .free rfl ?_
            refine o_arith rfl rfl rfl (by omega) .free rfl ?_
            refine o_assign rfl .free rfl ?_
            refine o_done ?_
            first
              | (refine s_env (E' := [(3, .slice o1 l.length ca), (4, .slice o2 m.length cb), (7, .int .i64 (i : Nat)), (8, .string (str ((envLook l m l[i]).getD []))), (9, .bool (envLook l m l[i]).isSome), (10, .string (str m[k])), (11, .int .i64 ((k + 1 : Nat)))]) ⟨rfl, rfl, rfl, rfl, rfl, rfl, rfl, trivial⟩ ?_
                 have hk2 : k < l.length := by omega
                 have e : m[k] = lastTxt l m l[i] (k + 1) := by
                   have : l[k] = l[i] := by assumption
                   simp [lastTxt, lastAt, hk2, this, hlm ▸ hk2]
                 rw [e]
                 exact ih2 (k + 1) (by omega) (by omega))
              | (refine s_env (E' := [(3, .slice o1 l.length ca), (4, .slice o2 m.length cb), (7, .int .i64 (i : Nat)), (8, .string (str ((envLook l m l[i]).getD []))), (9, .bool (envLook l m l[i]).isSome), (10, .string (str (lastTxt l m l[i] k))), (11, .int .i64 ((k + 1 : Nat)))]) ⟨rfl, rfl, rfl, rfl, rfl, rfl, rfl, trivial⟩ ?_
                 have hk2 : k < l.length := by omega
                 have e : lastTxt l m l[i] k = lastTxt l m l[i] (k + 1) := by
                   have : ¬ l[k] = l[i] := by assumption
                   simp [lastTxt, lastAt, hk2, this]
                 rw [e]
                 exact ih2 (k + 1) (by omega) (by omega))
        · intro c3
          obtain rfl : k = l.length := by omega
          have hfind : envLook l m l[i] = some (lastTxt l m l[i] l.length) := by
            obtain ⟨j, hj⟩ := lastAt_some (l := l) (s := l[i]) (n := l.length) (i := i) (by omega) (by simp [show i < l.length by omega])
            simp [envLook, he, lastIdx, hj, lastTxt]
          rw [hfind]
          refine s_exit rfl ?_
          refine s_seq ?_
          refine o_enter rfl ?_
          refine o_move rfl .free rfl ?_
          refine o_not rfl .free rfl ?_
          refine o_move rfl .free rfl ?_
          refine o_put (t := 75) (v' := .bool (decide False)) rfl (by simp) ?_
          first | refine g_fp rfl rfl (by simp) ?_ | refine g_fn rfl rfl (by simp) ?_
          refine o_move rfl (.met rfl rfl) rfl ?_
          refine o_move rfl (.met rfl rfl) rfl ?_
          refine o_cmps rfl rfl rfl (.met rfl rfl) rfl ?_
          refine o_pick_false rfl rfl .free rfl ?_
          refine o_done ?_
          first | refine s_fp rfl (by simp) ?_ | refine s_fn rfl (by simp) ?_ | refine s_false (by simp [look, opd, *]) ?_
          refine s_skip ?_
          refine s_inBlock ?_
          refine o_enter rfl ?_
          refine o_move rfl .free rfl ?_
          refine o_arith rfl rfl rfl (by omega) .free rfl ?_
          refine o_assign rfl .free rfl ?_
          refine o_done ?_
          refine s_env (E' := [(3, .slice o1 l.length ca), (4, .slice o2 m.length cb), (7, .int .i64 ((i + 1 : Nat)))]) ⟨rfl, rfl, rfl, trivial⟩ (ih (J4, i + 1) ⟨hle.trans e4, by simp only; omega⟩ (by simp only; omega))
      · intro c2
        refine s_exit rfl ?_
        refine s_seq ?_
        refine o_enter rfl ?_
        refine o_move rfl .free rfl ?_
        refine o_move rfl .free rfl ?_
        refine o_call rfl .free rfl (f_EnvLook (k1.mono hle) (k2.mono hle) [122, 57, 57] _) ?_
        rintro _ J5 _ e5 ⟨rfl, rfl⟩
        refine o_move rfl .free rfl ?_
        refine o_extract rfl rfl .free rfl ?_
        refine o_extract rfl rfl .free rfl ?_
        refine o_assign rfl .free rfl ?_
        refine o_assign rfl .free rfl ?_
        refine o_done ?_
        refine s_seq ?_
        refine o_enter rfl ?_
        refine o_move rfl .free rfl ?_
        refine o_not rfl .free rfl ?_
        refine o_move rfl .free rfl ?_
        first | refine g_if rfl rfl ?_ ?_ | refine g_ifn rfl rfl ?_ ?_ | refine g_b rfl rfl ?_ ?_
        · intro g21_3
          refine o_skip rfl rfl rfl ?_
          refine o_skip rfl rfl rfl ?_
          refine o_pick_true rfl rfl .free rfl ?_
          refine o_assign rfl .free rfl ?_
          refine o_done ?_
          refine s_ret (.tmp rfl .nil) ?_
          first
            | exact ⟨J5, L, (((e1.trans e2).trans e3).trans hle).trans e5, fun _ h => h, rfl, rfl⟩
            | (refine ⟨J5, L, (((e1.trans e2).trans e3).trans hle).trans e5, fun _ h => h, ?_, rfl⟩
               have hm : [122, 57, 57] ∈ l := by
                 cases hj : lastIdx l [122, 57, 57] with
                 | none => simp [envLook, he, hj] at g21_3
                 | some j =>
                   obtain ⟨h1, h2⟩ := lastAt_lt hj
                   rw [← h2]; simp [show j < l.length from h1]
               simp [retOne, hm])
        · intro g21_3
          refine o_move rfl (.met rfl rfl) rfl ?_
          refine o_call rfl (.met rfl rfl) rfl (x_hasText (k1.mono (hle.trans e5)) [122, 57, 57] _) ?_
          rintro _ _ _ _ ⟨rfl, rfl, rfl⟩
          refine o_pick_false rfl rfl .free rfl ?_
          refine o_assign rfl .free rfl ?_
          refine o_done ?_
          refine s_ret (.tmp rfl .nil) ?_
          first
            | exact ⟨J5, L, (((e1.trans e2).trans e3).trans hle).trans e5, fun _ h => h, rfl, rfl⟩
            | (refine ⟨J5, L, (((e1.trans e2).trans e3).trans hle).trans e5, fun _ h => h, ?_, rfl⟩
               have hm : [122, 57, 57] ∈ l := by
                 cases hj : lastIdx l [122, 57, 57] with
                 | none => simp [envLook, he, hj] at g21_3
                 | some j =>
                   obtain ⟨h1, h2⟩ := lastAt_lt hj
                   rw [← h2]; simp [show j < l.length from h1]
               simp [retOne, hm])
end Go.Proofs.Ythfkmfacmijbpaa
