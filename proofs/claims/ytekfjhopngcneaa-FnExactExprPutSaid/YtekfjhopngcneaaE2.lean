
/- Which parts of an expression are expressions. No conditions. -/
import Derived.Test.YtekfjhopngcneaaE1
namespace Go.Proofs.Ytekfjhopngcneaa
set_option maxRecDepth 100000
set_option linter.unusedVariables false
set_option linter.unusedSimpArgs false

def tCall : Txt := [99, 97, 108, 108]
def tPair : Txt := [112, 97, 105, 114]
def tIf : Txt := [105, 102]
def tLet : Txt := [108, 101, 116]
def tFun : Txt := [102, 117, 110]
def tFst : Txt := [102, 115, 116]
def tSnd : Txt := [115, 110, 100]
/-- The first part that is an expression, and how many parts there are. -/
def kidRange (h : Txt) : Nat × Nat :=
  if h = [43] ∨ h = [45] ∨ h = [42] ∨ h = tCall ∨ h = tPair then (1, 3) else if h = tIf then (1, 4) else if h = tLet then (2, 4) else if h = tFun then (5, 6) else if h = tFst ∨ h = tSnd then (1, 2) else (0, 0)
def KR (h : Txt) (I : Heap) (L : Own) : Post := Only (.tuple #[.int .i64 ((kidRange h).1 : Nat), .int .i64 ((kidRange h).2 : Nat)]) I L
theorem g_l2Kids (h : Txt) (I : Heap) (L : Own) : Fun Try.prog 23 [.string (str h)] I L (KR h I L) := by
  refine fun_intro (by simp) ?_
  refine s_seq ?_
  refine o_enter rfl ?_
  refine o_assign rfl .free rfl ?_
  refine o_assign rfl .free rfl ?_
  refine o_done ?_
  refine s_seq ?_
  refine s_seq ?_
  refine o_enter rfl ?_
  refine o_move rfl .free rfl ?_
  refine o_done ?_
  refine s_block ?_
  refine s_seq ?_
  refine s_seq ?_
  refine o_enter rfl ?_
  refine o_cmps rfl rfl rfl .free rfl ?_
  refine o_assign rfl .free rfl ?_
  refine o_done ?_
  first | refine s_if rfl ?_ ?_ | refine s_ifn rfl ?_ ?_ | refine s_cond rfl ?_ ?_
  · intro c0
    refine s_skip ?_
    first | refine s_tp rfl (by first | assumption | omega) ?_ | refine s_tn rfl (by first | assumption | omega) ?_ | refine s_true (by simp [look, opd, *]) ?_
    refine s_seq ?_
    refine o_enter rfl ?_
    refine o_assign rfl .free rfl ?_
    refine o_assign rfl .free rfl ?_
    refine o_done ?_
    refine s_ret (.tmp rfl (.tmp rfl .nil)) ?_
    refine done_only rfl (by intro _ h; first | exact h | exact dr1 h | exact dr2 h | exact dr3 h | exact dr4 h | exact dr5 h | exact dr6 h) ?_
    first
      | (subst_vars; rfl)
      | (have e : kidRange h = (0, 0) := by unfold kidRange tCall tPair tIf tLet tFun tFst tSnd; simp [*]
         rw [e]; rfl)
  · intro c0
    refine s_seq ?_
    refine o_enter rfl ?_
    refine o_cmps rfl rfl rfl .free rfl ?_
    refine o_assign rfl .free rfl ?_
    refine o_done ?_
    first | refine s_if rfl ?_ ?_ | refine s_ifn rfl ?_ ?_ | refine s_cond rfl ?_ ?_
    · intro c1
      refine s_skip ?_
      first | refine s_tp rfl (by first | assumption | omega) ?_ | refine s_tn rfl (by first | assumption | omega) ?_ | refine s_true (by simp [look, opd, *]) ?_
      refine s_seq ?_
      refine o_enter rfl ?_
      refine o_assign rfl .free rfl ?_
      refine o_assign rfl .free rfl ?_
      refine o_done ?_
      refine s_ret (.tmp rfl (.tmp rfl .nil)) ?_
      refine done_only rfl (by intro _ h; first | exact h | exact dr1 h | exact dr2 h | exact dr3 h | exact dr4 h | exact dr5 h | exact dr6 h) ?_
      first
        | (subst_vars; rfl)
        | (have e : kidRange h = (0, 0) := by unfold kidRange tCall tPair tIf tLet tFun tFst tSnd; simp [*]
           rw [e]; rfl)
    · intro c1
      refine s_seq ?_
      refine o_enter rfl ?_
      refine o_cmps rfl rfl rfl .free rfl ?_
      refine o_assign rfl .free rfl ?_
      refine o_done ?_
      first | refine s_if rfl ?_ ?_ | refine s_ifn rfl ?_ ?_ | refine s_cond rfl ?_ ?_
      · intro c2
        refine s_skip ?_
        first | refine s_tp rfl (by first | assumption | omega) ?_ | refine s_tn rfl (by first | assumption | omega) ?_ | refine s_true (by simp [look, opd, *]) ?_
        refine s_seq ?_
        refine o_enter rfl ?_
        refine o_assign rfl .free rfl ?_
        refine o_assign rfl .free rfl ?_
        refine o_done ?_
        refine s_ret (.tmp rfl (.tmp rfl .nil)) ?_
        refine done_only rfl (by intro _ h; first | exact h | exact dr1 h | exact dr2 h | exact dr3 h | exact dr4 h | exact dr5 h | exact dr6 h) ?_
        first
          | (subst_vars; rfl)
          | (have e : kidRange h = (0, 0) := by unfold kidRange tCall tPair tIf tLet tFun tFst tSnd; simp [*]
             rw [e]; rfl)
      · intro c2
        refine s_seq ?_
        refine o_enter rfl ?_
        refine o_cmps rfl rfl rfl .free rfl ?_
        refine o_assign rfl .free rfl ?_
        refine o_done ?_
        first | refine s_if rfl ?_ ?_ | refine s_ifn rfl ?_ ?_ | refine s_cond rfl ?_ ?_
        · intro c3
          refine s_skip ?_
          first | refine s_tp rfl (by first | assumption | omega) ?_ | refine s_tn rfl (by first | assumption | omega) ?_ | refine s_true (by simp [look, opd, *]) ?_
          refine s_seq ?_
          refine o_enter rfl ?_
          refine o_assign rfl .free rfl ?_
          refine o_assign rfl .free rfl ?_
          refine o_done ?_
          refine s_ret (.tmp rfl (.tmp rfl .nil)) ?_
          refine done_only rfl (by intro _ h; first | exact h | exact dr1 h | exact dr2 h | exact dr3 h | exact dr4 h | exact dr5 h | exact dr6 h) ?_
          first
            | (subst_vars; rfl)
            | (have e : kidRange h = (0, 0) := by unfold kidRange tCall tPair tIf tLet tFun tFst tSnd; simp [*]
               rw [e]; rfl)
        · intro c3
          refine o_enter rfl ?_
          refine o_cmps rfl rfl rfl .free rfl ?_
          refine o_assign rfl .free rfl ?_
          refine o_done ?_
          first | refine s_if rfl ?_ ?_ | refine s_ifn rfl ?_ ?_ | refine s_cond rfl ?_ ?_
          · intro c4
            refine s_seq ?_
            refine o_enter rfl ?_
            refine o_assign rfl .free rfl ?_
            refine o_assign rfl .free rfl ?_
            refine o_done ?_
            refine s_ret (.tmp rfl (.tmp rfl .nil)) ?_
            refine done_only rfl (by intro _ h; first | exact h | exact dr1 h | exact dr2 h | exact dr3 h | exact dr4 h | exact dr5 h | exact dr6 h) ?_
            first
              | (subst_vars; rfl)
              | (have e : kidRange h = (0, 0) := by unfold kidRange tCall tPair tIf tLet tFun tFst tSnd; simp [*]
                 rw [e]; rfl)
          · intro c4
            refine s_seq ?_
            refine o_enter rfl ?_
            refine o_cmps rfl rfl rfl .free rfl ?_
            refine o_assign rfl .free rfl ?_
            refine o_done ?_
            first | refine s_if rfl ?_ ?_ | refine s_ifn rfl ?_ ?_ | refine s_cond rfl ?_ ?_
            · intro c5
              refine s_seq ?_
              refine o_enter rfl ?_
              refine o_assign rfl .free rfl ?_
              refine o_assign rfl .free rfl ?_
              refine o_done ?_
              refine s_ret (.tmp rfl (.tmp rfl .nil)) ?_
              refine done_only rfl (by intro _ h; first | exact h | exact dr1 h | exact dr2 h | exact dr3 h | exact dr4 h | exact dr5 h | exact dr6 h) ?_
              first
                | (subst_vars; rfl)
                | (have e : kidRange h = (0, 0) := by unfold kidRange tCall tPair tIf tLet tFun tFst tSnd; simp [*]
                   rw [e]; rfl)
            · intro c5
              refine s_seq ?_
              refine o_enter rfl ?_
              refine o_cmps rfl rfl rfl .free rfl ?_
              refine o_assign rfl .free rfl ?_
              refine o_done ?_
              first | refine s_if rfl ?_ ?_ | refine s_ifn rfl ?_ ?_ | refine s_cond rfl ?_ ?_
              · intro c6
                refine s_seq ?_
                refine o_enter rfl ?_
                refine o_assign rfl .free rfl ?_
                refine o_assign rfl .free rfl ?_
                refine o_done ?_
                refine s_ret (.tmp rfl (.tmp rfl .nil)) ?_
                refine done_only rfl (by intro _ h; first | exact h | exact dr1 h | exact dr2 h | exact dr3 h | exact dr4 h | exact dr5 h | exact dr6 h) ?_
                first
                  | (subst_vars; rfl)
                  | (have e : kidRange h = (0, 0) := by unfold kidRange tCall tPair tIf tLet tFun tFst tSnd; simp [*]
                     rw [e]; rfl)
              · intro c6
                refine s_seq ?_
                refine o_enter rfl ?_
                refine o_cmps rfl rfl rfl .free rfl ?_
                refine o_assign rfl .free rfl ?_
                refine o_done ?_
                first | refine s_if rfl ?_ ?_ | refine s_ifn rfl ?_ ?_ | refine s_cond rfl ?_ ?_
                · intro c7
                  refine s_seq ?_
                  refine o_enter rfl ?_
                  refine o_assign rfl .free rfl ?_
                  refine o_assign rfl .free rfl ?_
                  refine o_done ?_
                  refine s_ret (.tmp rfl (.tmp rfl .nil)) ?_
                  refine done_only rfl (by intro _ h; first | exact h | exact dr1 h | exact dr2 h | exact dr3 h | exact dr4 h | exact dr5 h | exact dr6 h) ?_
                  first
                    | (subst_vars; rfl)
                    | (have e : kidRange h = (0, 0) := by unfold kidRange tCall tPair tIf tLet tFun tFst tSnd; simp [*]
                       rw [e]; rfl)
                · intro c7
                  refine s_seq ?_
                  refine s_seq ?_
                  refine o_enter rfl ?_
                  refine o_cmps rfl rfl rfl .free rfl ?_
                  refine o_assign rfl .free rfl ?_
                  refine o_done ?_
                  first | refine s_if rfl ?_ ?_ | refine s_ifn rfl ?_ ?_ | refine s_cond rfl ?_ ?_
                  · intro c8
                    refine s_skip ?_
                    first | refine s_tp rfl (by first | assumption | omega) ?_ | refine s_tn rfl (by first | assumption | omega) ?_ | refine s_true (by simp [look, opd, *]) ?_
                    refine s_seq ?_
                    refine o_enter rfl ?_
                    refine o_assign rfl .free rfl ?_
                    refine o_assign rfl .free rfl ?_
                    refine o_done ?_
                    refine s_ret (.tmp rfl (.tmp rfl .nil)) ?_
                    refine done_only rfl (by intro _ h; first | exact h | exact dr1 h | exact dr2 h | exact dr3 h | exact dr4 h | exact dr5 h | exact dr6 h) ?_
                    first
                      | (subst_vars; rfl)
                      | (have e : kidRange h = (0, 0) := by unfold kidRange tCall tPair tIf tLet tFun tFst tSnd; simp [*]
                         rw [e]; rfl)
                  · intro c8
                    refine o_enter rfl ?_
                    refine o_cmps rfl rfl rfl .free rfl ?_
                    refine o_assign rfl .free rfl ?_
                    refine o_done ?_
                    first | refine s_if rfl ?_ ?_ | refine s_ifn rfl ?_ ?_ | refine s_cond rfl ?_ ?_
                    · intro c9
                      refine s_seq ?_
                      refine o_enter rfl ?_
                      refine o_assign rfl .free rfl ?_
                      refine o_assign rfl .free rfl ?_
                      refine o_done ?_
                      refine s_ret (.tmp rfl (.tmp rfl .nil)) ?_
                      refine done_only rfl (by intro _ h; first | exact h | exact dr1 h | exact dr2 h | exact dr3 h | exact dr4 h | exact dr5 h | exact dr6 h) ?_
                      first
                        | (subst_vars; rfl)
                        | (have e : kidRange h = (0, 0) := by unfold kidRange tCall tPair tIf tLet tFun tFst tSnd; simp [*]
                           rw [e]; rfl)
                    · intro c9
                      refine s_skip ?_
                      refine s_inBlock ?_
                      refine s_seq ?_
                      refine o_enter rfl ?_
                      refine o_assign rfl .free rfl ?_
                      refine o_assign rfl .free rfl ?_
                      refine o_done ?_
                      refine s_ret (.tmp rfl (.tmp rfl .nil)) ?_
                      refine done_only rfl (by intro _ h; first | exact h | exact dr1 h | exact dr2 h | exact dr3 h | exact dr4 h | exact dr5 h | exact dr6 h) ?_
                      first
                        | (subst_vars; rfl)
                        | (have e : kidRange h = (0, 0) := by unfold kidRange tCall tPair tIf tLet tFun tFst tSnd; simp [*]
                           rw [e]; rfl)

def kids (t : Tree) : List Nat := if t.parts.length = (kidRange t.head).2 then List.range' (kidRange t.head).1 ((kidRange t.head).2 - (kidRange t.head).1) else []
def nv (n : Nat) : Value := .int .i64 (n : Nat)
/-- A list of numbers in still memory. -/
structure Nums (I : Heap) (oa : Option Addr) (l : List Nat) (c : Nat) : Prop where
  still : ∀ x, oa = some x → Still I x (l.map nv)
  nil : oa = none → l = []
  cap : l.length ≤ c
theorem Nums.mono {I I' : Heap} {oa : Option Addr} {l : List Nat} {c : Nat} (hle : HLe I I') (h : Nums I oa l c) : Nums I' oa l c := ⟨fun x hx => (h.still x hx).mono hle, h.nil, h.cap⟩
theorem Nums.at {I : Heap} {oa : Option Addr} {l : List Nat} {c : Nat} (h : Nums I oa l c) (i : Nat) (hi : i < l.length) : ∃ x, oa = some x ∧ Still I (x.add (i * 1)) [.int .i64 (l[i] : Nat)] := by
  cases oa with
  | none => have := h.nil rfl; subst this; simp at hi
  | some x =>
    refine ⟨x, rfl, (h.still x rfl).part (i * 1) ?_⟩
    intro j hj
    obtain rfl : j = 0 := by simpa using hj
    simp [hi, nv]
theorem nums_lit {I : Heap} {b : Nat} {l : List Nat} {e : TypeId} : Nums (I.set b (.cells (l.map nv).toArray e (0, 0))) (some ⟨b, 0, none⟩) l l.length :=
  ⟨fun y hy => by cases hy; simpa using still_set (xs := l.map nv) (ys := []), by simp, Nat.le_refl _⟩
def KD (l : List Nat) (L : Own) : Post := fun v I' L' => ∃ oa c, v = .slice oa (List.length l) c ∧ Nums I' oa l c ∧ L = L'
theorem KD_lit {I : Heap} {b : Nat} {l m : List Nat} {e : TypeId} {L : Own} (h : l = m) : KD m L (.slice (some ⟨b, 0, none⟩) l.length l.length) (I.set b (.cells (l.map nv).toArray e (0, 0))) L := by
  subst h; exact ⟨_, _, rfl, nums_lit, rfl⟩
theorem f_form_kids {I : Heap} {t : Tree} {cs : List Value} (h : Rep I t cs) (L : Own) : Fun Try.prog 32 [.agg cs.toArray] I L (KD (kids t) L) := by
  obtain ⟨oa, c, vs, rfl, hrl, hs, hn, hc, ha, hp⟩ := h.open
  unfold maxN at hp
  refine fun_intro (by simp) ?_
  refine s_seq ?_
  refine o_enter rfl ?_
  refine o_box rfl rfl .free rfl ?_
  intro b1
  refine o_assign rfl .free rfl ?_
  refine o_done ?_
  refine s_seq ?_
  refine s_seq ?_
  refine o_enter rfl ?_
  refine o_load rfl (by first | exact loads_still1 (by assumption) rfl | exact loads_ownS (by first | exact m0 | exact m1 | exact m2 | exact m3 | exact m4 | exact m5 | exact m6) (by rfl) | exact loads_own1 (by first | exact m0 | exact m1 | exact m2 | exact m3 | exact m4 | exact m5 | exact m6) (by rfl) rfl | exact loads_stillS (by assumption) (by rfl) | exact loads_stillF (by assumption) (by rfl) rfl) .free rfl ?_
  refine o_call rfl .free rfl (f_form_head h _) ?_
  rintro _ _ _ _ ⟨rfl, rfl, rfl⟩
  refine o_done ?_
  refine s_block ?_
  refine s_seq ?_
  refine s_seq ?_
  refine o_enter rfl ?_
  refine o_cmps rfl rfl rfl .free rfl ?_
  refine o_assign rfl .free rfl ?_
  refine o_done ?_
  first | refine s_if rfl ?_ ?_ | refine s_ifn rfl ?_ ?_ | refine s_cond rfl ?_ ?_
  · intro c0
    refine s_skip ?_
    first | refine s_tp rfl (by first | assumption | omega) ?_ | refine s_tn rfl (by first | assumption | omega) ?_ | refine s_true (by simp [look, opd, *]) ?_
    refine s_seq ?_
    refine o_enter rfl ?_
    first | refine o_fieldAddr rfl .free rfl ?_ | refine o_fieldAddr' rfl .free rfl ?_
    refine o_load rfl (by first | exact loads_still1 (by assumption) rfl | exact loads_ownS (by first | exact m0 | exact m1 | exact m2 | exact m3 | exact m4 | exact m5 | exact m6) (by rfl) | exact loads_own1 (by first | exact m0 | exact m1 | exact m2 | exact m3 | exact m4 | exact m5 | exact m6) (by rfl) rfl | exact loads_stillS (by assumption) (by rfl) | exact loads_stillF (by assumption) (by rfl) rfl) .free rfl ?_
    refine o_len_slice rfl .free rfl ?_
    refine o_cmp rfl rfl rfl .free rfl ?_
    refine o_done ?_
    first | refine s_if rfl ?_ ?_ | refine s_ifn rfl ?_ ?_ | refine s_cond rfl ?_ ?_
    · intro c5
      refine s_seq ?_
      refine o_enter rfl ?_
      refine o_lits rfl rfl (by rfl) (by rfl) (by rfl) (by decide) (by decide) (by rfl) .free rfl ?_
      intro b15
      refine o_assign rfl .free rfl ?_
      refine o_done ?_
      refine s_freeze ?_
      intro hz
      refine s_ret (.tmp rfl .nil) ?_
      refine ⟨_, L, hz, fun _ h => h.drop, KD_lit (l := [1, 2]) ?_⟩
      have hl : t.parts.length = 3 := by omega
      unfold kids kidRange tCall tPair tIf tLet tFun tFst tSnd
      simp only [*, true_or, or_true, or_false, false_or, if_true, if_false]
      rfl
    · intro c5
      refine s_skip ?_
      refine s_inBlock ?_
      refine s_seq ?_
      refine o_enter rfl ?_
      refine o_assign rfl .free rfl ?_
      refine o_done ?_
      refine s_ret (.tmp rfl .nil) ?_
      have hk : kids t = [] := by
        unfold kids kidRange tCall tPair tIf tLet tFun tFst tSnd
        first
          | (have hl : ¬ t.parts.length = 3 := by omega
             simp [*]; done)
          | (have hl : ¬ t.parts.length = 4 := by omega
             simp [*]; done)
          | (have hl : ¬ t.parts.length = 6 := by omega
             simp [*]; done)
          | (have hl : ¬ t.parts.length = 2 := by omega
             simp [*]; done)
          | (simp [*]; done)
      exact ⟨I, L, .refl _, fun _ h => h.drop, none, 0, by rw [hk]; rfl, ⟨by simp, fun _ => hk, by rw [hk]; simp⟩, rfl⟩
  · intro c0
    refine s_seq ?_
    refine o_enter rfl ?_
    refine o_cmps rfl rfl rfl .free rfl ?_
    refine o_assign rfl .free rfl ?_
    refine o_done ?_
    first | refine s_if rfl ?_ ?_ | refine s_ifn rfl ?_ ?_ | refine s_cond rfl ?_ ?_
    · intro c1
      refine s_skip ?_
      first | refine s_tp rfl (by first | assumption | omega) ?_ | refine s_tn rfl (by first | assumption | omega) ?_ | refine s_true (by simp [look, opd, *]) ?_
      refine s_seq ?_
      refine o_enter rfl ?_
      first | refine o_fieldAddr rfl .free rfl ?_ | refine o_fieldAddr' rfl .free rfl ?_
      refine o_load rfl (by first | exact loads_still1 (by assumption) rfl | exact loads_ownS (by first | exact m0 | exact m1 | exact m2 | exact m3 | exact m4 | exact m5 | exact m6) (by rfl) | exact loads_own1 (by first | exact m0 | exact m1 | exact m2 | exact m3 | exact m4 | exact m5 | exact m6) (by rfl) rfl | exact loads_stillS (by assumption) (by rfl) | exact loads_stillF (by assumption) (by rfl) rfl) .free rfl ?_
      refine o_len_slice rfl .free rfl ?_
      refine o_cmp rfl rfl rfl .free rfl ?_
      refine o_done ?_
      first | refine s_if rfl ?_ ?_ | refine s_ifn rfl ?_ ?_ | refine s_cond rfl ?_ ?_
      · intro c5
        refine s_seq ?_
        refine o_enter rfl ?_
        refine o_lits rfl rfl (by rfl) (by rfl) (by rfl) (by decide) (by decide) (by rfl) .free rfl ?_
        intro b15
        refine o_assign rfl .free rfl ?_
        refine o_done ?_
        refine s_freeze ?_
        intro hz
        refine s_ret (.tmp rfl .nil) ?_
        refine ⟨_, L, hz, fun _ h => h.drop, KD_lit (l := [1, 2]) ?_⟩
        have hl : t.parts.length = 3 := by omega
        unfold kids kidRange tCall tPair tIf tLet tFun tFst tSnd
        simp only [*, true_or, or_true, or_false, false_or, if_true, if_false]
        rfl
      · intro c5
        refine s_skip ?_
        refine s_inBlock ?_
        refine s_seq ?_
        refine o_enter rfl ?_
        refine o_assign rfl .free rfl ?_
        refine o_done ?_
        refine s_ret (.tmp rfl .nil) ?_
        have hk : kids t = [] := by
          unfold kids kidRange tCall tPair tIf tLet tFun tFst tSnd
          first
            | (have hl : ¬ t.parts.length = 3 := by omega
               simp [*]; done)
            | (have hl : ¬ t.parts.length = 4 := by omega
               simp [*]; done)
            | (have hl : ¬ t.parts.length = 6 := by omega
               simp [*]; done)
            | (have hl : ¬ t.parts.length = 2 := by omega
               simp [*]; done)
            | (simp [*]; done)
        exact ⟨I, L, .refl _, fun _ h => h.drop, none, 0, by rw [hk]; rfl, ⟨by simp, fun _ => hk, by rw [hk]; simp⟩, rfl⟩
    · intro c1
      refine s_seq ?_
      refine o_enter rfl ?_
      refine o_cmps rfl rfl rfl .free rfl ?_
      refine o_assign rfl .free rfl ?_
      refine o_done ?_
      first | refine s_if rfl ?_ ?_ | refine s_ifn rfl ?_ ?_ | refine s_cond rfl ?_ ?_
      · intro c2
        refine s_skip ?_
        first | refine s_tp rfl (by first | assumption | omega) ?_ | refine s_tn rfl (by first | assumption | omega) ?_ | refine s_true (by simp [look, opd, *]) ?_
        refine s_seq ?_
        refine o_enter rfl ?_
        first | refine o_fieldAddr rfl .free rfl ?_ | refine o_fieldAddr' rfl .free rfl ?_
        refine o_load rfl (by first | exact loads_still1 (by assumption) rfl | exact loads_ownS (by first | exact m0 | exact m1 | exact m2 | exact m3 | exact m4 | exact m5 | exact m6) (by rfl) | exact loads_own1 (by first | exact m0 | exact m1 | exact m2 | exact m3 | exact m4 | exact m5 | exact m6) (by rfl) rfl | exact loads_stillS (by assumption) (by rfl) | exact loads_stillF (by assumption) (by rfl) rfl) .free rfl ?_
        refine o_len_slice rfl .free rfl ?_
        refine o_cmp rfl rfl rfl .free rfl ?_
        refine o_done ?_
        first | refine s_if rfl ?_ ?_ | refine s_ifn rfl ?_ ?_ | refine s_cond rfl ?_ ?_
        · intro c5
          refine s_seq ?_
          refine o_enter rfl ?_
          refine o_lits rfl rfl (by rfl) (by rfl) (by rfl) (by decide) (by decide) (by rfl) .free rfl ?_
          intro b15
          refine o_assign rfl .free rfl ?_
          refine o_done ?_
          refine s_freeze ?_
          intro hz
          refine s_ret (.tmp rfl .nil) ?_
          refine ⟨_, L, hz, fun _ h => h.drop, KD_lit (l := [1, 2]) ?_⟩
          have hl : t.parts.length = 3 := by omega
          unfold kids kidRange tCall tPair tIf tLet tFun tFst tSnd
          simp only [*, true_or, or_true, or_false, false_or, if_true, if_false]
          rfl
        · intro c5
          refine s_skip ?_
          refine s_inBlock ?_
          refine s_seq ?_
          refine o_enter rfl ?_
          refine o_assign rfl .free rfl ?_
          refine o_done ?_
          refine s_ret (.tmp rfl .nil) ?_
          have hk : kids t = [] := by
            unfold kids kidRange tCall tPair tIf tLet tFun tFst tSnd
            first
              | (have hl : ¬ t.parts.length = 3 := by omega
                 simp [*]; done)
              | (have hl : ¬ t.parts.length = 4 := by omega
                 simp [*]; done)
              | (have hl : ¬ t.parts.length = 6 := by omega
                 simp [*]; done)
              | (have hl : ¬ t.parts.length = 2 := by omega
                 simp [*]; done)
              | (simp [*]; done)
          exact ⟨I, L, .refl _, fun _ h => h.drop, none, 0, by rw [hk]; rfl, ⟨by simp, fun _ => hk, by rw [hk]; simp⟩, rfl⟩
      · intro c2
        refine s_seq ?_
        refine o_enter rfl ?_
        refine o_cmps rfl rfl rfl .free rfl ?_
        refine o_assign rfl .free rfl ?_
        refine o_done ?_
        first | refine s_if rfl ?_ ?_ | refine s_ifn rfl ?_ ?_ | refine s_cond rfl ?_ ?_
        · intro c3
          refine s_skip ?_
          first | refine s_tp rfl (by first | assumption | omega) ?_ | refine s_tn rfl (by first | assumption | omega) ?_ | refine s_true (by simp [look, opd, *]) ?_
          refine s_seq ?_
          refine o_enter rfl ?_
          first | refine o_fieldAddr rfl .free rfl ?_ | refine o_fieldAddr' rfl .free rfl ?_
          refine o_load rfl (by first | exact loads_still1 (by assumption) rfl | exact loads_ownS (by first | exact m0 | exact m1 | exact m2 | exact m3 | exact m4 | exact m5 | exact m6) (by rfl) | exact loads_own1 (by first | exact m0 | exact m1 | exact m2 | exact m3 | exact m4 | exact m5 | exact m6) (by rfl) rfl | exact loads_stillS (by assumption) (by rfl) | exact loads_stillF (by assumption) (by rfl) rfl) .free rfl ?_
          refine o_len_slice rfl .free rfl ?_
          refine o_cmp rfl rfl rfl .free rfl ?_
          refine o_done ?_
          first | refine s_if rfl ?_ ?_ | refine s_ifn rfl ?_ ?_ | refine s_cond rfl ?_ ?_
          · intro c5
            refine s_seq ?_
            refine o_enter rfl ?_
            refine o_lits rfl rfl (by rfl) (by rfl) (by rfl) (by decide) (by decide) (by rfl) .free rfl ?_
            intro b15
            refine o_assign rfl .free rfl ?_
            refine o_done ?_
            refine s_freeze ?_
            intro hz
            refine s_ret (.tmp rfl .nil) ?_
            refine ⟨_, L, hz, fun _ h => h.drop, KD_lit (l := [1, 2]) ?_⟩
            have hl : t.parts.length = 3 := by omega
            unfold kids kidRange tCall tPair tIf tLet tFun tFst tSnd
            simp only [*, true_or, or_true, or_false, false_or, if_true, if_false]
            rfl
          · intro c5
            refine s_skip ?_
            refine s_inBlock ?_
            refine s_seq ?_
            refine o_enter rfl ?_
            refine o_assign rfl .free rfl ?_
            refine o_done ?_
            refine s_ret (.tmp rfl .nil) ?_
            have hk : kids t = [] := by
              unfold kids kidRange tCall tPair tIf tLet tFun tFst tSnd
              first
                | (have hl : ¬ t.parts.length = 3 := by omega
                   simp [*]; done)
                | (have hl : ¬ t.parts.length = 4 := by omega
                   simp [*]; done)
                | (have hl : ¬ t.parts.length = 6 := by omega
                   simp [*]; done)
                | (have hl : ¬ t.parts.length = 2 := by omega
                   simp [*]; done)
                | (simp [*]; done)
            exact ⟨I, L, .refl _, fun _ h => h.drop, none, 0, by rw [hk]; rfl, ⟨by simp, fun _ => hk, by rw [hk]; simp⟩, rfl⟩
        · intro c3
          refine o_enter rfl ?_
          refine o_cmps rfl rfl rfl .free rfl ?_
          refine o_assign rfl .free rfl ?_
          refine o_done ?_
          first | refine s_if rfl ?_ ?_ | refine s_ifn rfl ?_ ?_ | refine s_cond rfl ?_ ?_
          · intro c4
            refine s_seq ?_
            refine o_enter rfl ?_
            first | refine o_fieldAddr rfl .free rfl ?_ | refine o_fieldAddr' rfl .free rfl ?_
            refine o_load rfl (by first | exact loads_still1 (by assumption) rfl | exact loads_ownS (by first | exact m0 | exact m1 | exact m2 | exact m3 | exact m4 | exact m5 | exact m6) (by rfl) | exact loads_own1 (by first | exact m0 | exact m1 | exact m2 | exact m3 | exact m4 | exact m5 | exact m6) (by rfl) rfl | exact loads_stillS (by assumption) (by rfl) | exact loads_stillF (by assumption) (by rfl) rfl) .free rfl ?_
            refine o_len_slice rfl .free rfl ?_
            refine o_cmp rfl rfl rfl .free rfl ?_
            refine o_done ?_
            first | refine s_if rfl ?_ ?_ | refine s_ifn rfl ?_ ?_ | refine s_cond rfl ?_ ?_
            · intro c5
              refine s_seq ?_
              refine o_enter rfl ?_
              refine o_lits rfl rfl (by rfl) (by rfl) (by rfl) (by decide) (by decide) (by rfl) .free rfl ?_
              intro b15
              refine o_assign rfl .free rfl ?_
              refine o_done ?_
              refine s_freeze ?_
              intro hz
              refine s_ret (.tmp rfl .nil) ?_
              refine ⟨_, L, hz, fun _ h => h.drop, KD_lit (l := [1, 2]) ?_⟩
              have hl : t.parts.length = 3 := by omega
              unfold kids kidRange tCall tPair tIf tLet tFun tFst tSnd
              simp only [*, true_or, or_true, or_false, false_or, if_true, if_false]
              rfl
            · intro c5
              refine s_skip ?_
              refine s_inBlock ?_
              refine s_seq ?_
              refine o_enter rfl ?_
              refine o_assign rfl .free rfl ?_
              refine o_done ?_
              refine s_ret (.tmp rfl .nil) ?_
              have hk : kids t = [] := by
                unfold kids kidRange tCall tPair tIf tLet tFun tFst tSnd
                first
                  | (have hl : ¬ t.parts.length = 3 := by omega
                     simp [*]; done)
                  | (have hl : ¬ t.parts.length = 4 := by omega
                     simp [*]; done)
                  | (have hl : ¬ t.parts.length = 6 := by omega
                     simp [*]; done)
                  | (have hl : ¬ t.parts.length = 2 := by omega
                     simp [*]; done)
                  | (simp [*]; done)
              exact ⟨I, L, .refl _, fun _ h => h.drop, none, 0, by rw [hk]; rfl, ⟨by simp, fun _ => hk, by rw [hk]; simp⟩, rfl⟩
          · intro c4
            refine s_seq ?_
            refine o_enter rfl ?_
            refine o_cmps rfl rfl rfl .free rfl ?_
            refine o_assign rfl .free rfl ?_
            refine o_done ?_
            first | refine s_if rfl ?_ ?_ | refine s_ifn rfl ?_ ?_ | refine s_cond rfl ?_ ?_
            · intro c6
              refine s_seq ?_
              refine o_enter rfl ?_
              first | refine o_fieldAddr rfl .free rfl ?_ | refine o_fieldAddr' rfl .free rfl ?_
              refine o_load rfl (by first | exact loads_still1 (by assumption) rfl | exact loads_ownS (by first | exact m0 | exact m1 | exact m2 | exact m3 | exact m4 | exact m5 | exact m6) (by rfl) | exact loads_own1 (by first | exact m0 | exact m1 | exact m2 | exact m3 | exact m4 | exact m5 | exact m6) (by rfl) rfl | exact loads_stillS (by assumption) (by rfl) | exact loads_stillF (by assumption) (by rfl) rfl) .free rfl ?_
              refine o_len_slice rfl .free rfl ?_
              refine o_cmp rfl rfl rfl .free rfl ?_
              refine o_done ?_
              first | refine s_if rfl ?_ ?_ | refine s_ifn rfl ?_ ?_ | refine s_cond rfl ?_ ?_
              · intro c7
                refine s_seq ?_
                refine o_enter rfl ?_
                refine o_lits rfl rfl (by rfl) (by rfl) (by rfl) (by decide) (by decide) (by rfl) .free rfl ?_
                intro b22
                refine o_assign rfl .free rfl ?_
                refine o_done ?_
                refine s_freeze ?_
                intro hz
                refine s_ret (.tmp rfl .nil) ?_
                refine ⟨_, L, hz, fun _ h => h.drop, KD_lit (l := [1, 2, 3]) ?_⟩
                have hl : t.parts.length = 4 := by omega
                unfold kids kidRange tCall tPair tIf tLet tFun tFst tSnd
                simp only [*, true_or, or_true, or_false, false_or, if_true, if_false]
                rfl
              · intro c7
                refine s_skip ?_
                refine s_inBlock ?_
                refine s_seq ?_
                refine o_enter rfl ?_
                refine o_assign rfl .free rfl ?_
                refine o_done ?_
                refine s_ret (.tmp rfl .nil) ?_
                have hk : kids t = [] := by
                  unfold kids kidRange tCall tPair tIf tLet tFun tFst tSnd
                  first
                    | (have hl : ¬ t.parts.length = 3 := by omega
                       simp [*]; done)
                    | (have hl : ¬ t.parts.length = 4 := by omega
                       simp [*]; done)
                    | (have hl : ¬ t.parts.length = 6 := by omega
                       simp [*]; done)
                    | (have hl : ¬ t.parts.length = 2 := by omega
                       simp [*]; done)
                    | (simp [*]; done)
                exact ⟨I, L, .refl _, fun _ h => h.drop, none, 0, by rw [hk]; rfl, ⟨by simp, fun _ => hk, by rw [hk]; simp⟩, rfl⟩
            · intro c6
              refine s_seq ?_
              refine o_enter rfl ?_
              refine o_cmps rfl rfl rfl .free rfl ?_
              refine o_assign rfl .free rfl ?_
              refine o_done ?_
              first | refine s_if rfl ?_ ?_ | refine s_ifn rfl ?_ ?_ | refine s_cond rfl ?_ ?_
              · intro c8
                refine s_seq ?_
                refine o_enter rfl ?_
                first | refine o_fieldAddr rfl .free rfl ?_ | refine o_fieldAddr' rfl .free rfl ?_
                refine o_load rfl (by first | exact loads_still1 (by assumption) rfl | exact loads_ownS (by first | exact m0 | exact m1 | exact m2 | exact m3 | exact m4 | exact m5 | exact m6) (by rfl) | exact loads_own1 (by first | exact m0 | exact m1 | exact m2 | exact m3 | exact m4 | exact m5 | exact m6) (by rfl) rfl | exact loads_stillS (by assumption) (by rfl) | exact loads_stillF (by assumption) (by rfl) rfl) .free rfl ?_
                refine o_len_slice rfl .free rfl ?_
                refine o_cmp rfl rfl rfl .free rfl ?_
                refine o_done ?_
                first | refine s_if rfl ?_ ?_ | refine s_ifn rfl ?_ ?_ | refine s_cond rfl ?_ ?_
                · intro c9
                  refine s_seq ?_
                  refine o_enter rfl ?_
                  refine o_lits rfl rfl (by rfl) (by rfl) (by rfl) (by decide) (by decide) (by rfl) .free rfl ?_
                  intro b29
                  refine o_assign rfl .free rfl ?_
                  refine o_done ?_
                  refine s_freeze ?_
                  intro hz
                  refine s_ret (.tmp rfl .nil) ?_
                  refine ⟨_, L, hz, fun _ h => h.drop, KD_lit (l := [2, 3]) ?_⟩
                  have hl : t.parts.length = 4 := by omega
                  unfold kids kidRange tCall tPair tIf tLet tFun tFst tSnd
                  simp only [*, true_or, or_true, or_false, false_or, if_true, if_false]
                  rfl
                · intro c9
                  refine s_skip ?_
                  refine s_inBlock ?_
                  refine s_seq ?_
                  refine o_enter rfl ?_
                  refine o_assign rfl .free rfl ?_
                  refine o_done ?_
                  refine s_ret (.tmp rfl .nil) ?_
                  have hk : kids t = [] := by
                    unfold kids kidRange tCall tPair tIf tLet tFun tFst tSnd
                    first
                      | (have hl : ¬ t.parts.length = 3 := by omega
                         simp [*]; done)
                      | (have hl : ¬ t.parts.length = 4 := by omega
                         simp [*]; done)
                      | (have hl : ¬ t.parts.length = 6 := by omega
                         simp [*]; done)
                      | (have hl : ¬ t.parts.length = 2 := by omega
                         simp [*]; done)
                      | (simp [*]; done)
                  exact ⟨I, L, .refl _, fun _ h => h.drop, none, 0, by rw [hk]; rfl, ⟨by simp, fun _ => hk, by rw [hk]; simp⟩, rfl⟩
              · intro c8
                refine s_seq ?_
                refine o_enter rfl ?_
                refine o_cmps rfl rfl rfl .free rfl ?_
                refine o_assign rfl .free rfl ?_
                refine o_done ?_
                first | refine s_if rfl ?_ ?_ | refine s_ifn rfl ?_ ?_ | refine s_cond rfl ?_ ?_
                · intro c10
                  refine s_seq ?_
                  refine o_enter rfl ?_
                  first | refine o_fieldAddr rfl .free rfl ?_ | refine o_fieldAddr' rfl .free rfl ?_
                  refine o_load rfl (by first | exact loads_still1 (by assumption) rfl | exact loads_ownS (by first | exact m0 | exact m1 | exact m2 | exact m3 | exact m4 | exact m5 | exact m6) (by rfl) | exact loads_own1 (by first | exact m0 | exact m1 | exact m2 | exact m3 | exact m4 | exact m5 | exact m6) (by rfl) rfl | exact loads_stillS (by assumption) (by rfl) | exact loads_stillF (by assumption) (by rfl) rfl) .free rfl ?_
                  refine o_len_slice rfl .free rfl ?_
                  refine o_cmp rfl rfl rfl .free rfl ?_
                  refine o_done ?_
                  first | refine s_if rfl ?_ ?_ | refine s_ifn rfl ?_ ?_ | refine s_cond rfl ?_ ?_
                  · intro c11
                    refine s_seq ?_
                    refine o_enter rfl ?_
                    refine o_lits rfl rfl (by rfl) (by rfl) (by rfl) (by decide) (by decide) (by rfl) .free rfl ?_
                    intro b36
                    refine o_assign rfl .free rfl ?_
                    refine o_done ?_
                    refine s_freeze ?_
                    intro hz
                    refine s_ret (.tmp rfl .nil) ?_
                    refine ⟨_, L, hz, fun _ h => h.drop, KD_lit (l := [5]) ?_⟩
                    have hl : t.parts.length = 6 := by omega
                    unfold kids kidRange tCall tPair tIf tLet tFun tFst tSnd
                    simp only [*, true_or, or_true, or_false, false_or, if_true, if_false]
                    rfl
                  · intro c11
                    refine s_skip ?_
                    refine s_inBlock ?_
                    refine s_seq ?_
                    refine o_enter rfl ?_
                    refine o_assign rfl .free rfl ?_
                    refine o_done ?_
                    refine s_ret (.tmp rfl .nil) ?_
                    have hk : kids t = [] := by
                      unfold kids kidRange tCall tPair tIf tLet tFun tFst tSnd
                      first
                        | (have hl : ¬ t.parts.length = 3 := by omega
                           simp [*]; done)
                        | (have hl : ¬ t.parts.length = 4 := by omega
                           simp [*]; done)
                        | (have hl : ¬ t.parts.length = 6 := by omega
                           simp [*]; done)
                        | (have hl : ¬ t.parts.length = 2 := by omega
                           simp [*]; done)
                        | (simp [*]; done)
                    exact ⟨I, L, .refl _, fun _ h => h.drop, none, 0, by rw [hk]; rfl, ⟨by simp, fun _ => hk, by rw [hk]; simp⟩, rfl⟩
                · intro c10
                  refine s_seq ?_
                  refine s_seq ?_
                  refine o_enter rfl ?_
                  refine o_cmps rfl rfl rfl .free rfl ?_
                  refine o_assign rfl .free rfl ?_
                  refine o_done ?_
                  first | refine s_if rfl ?_ ?_ | refine s_ifn rfl ?_ ?_ | refine s_cond rfl ?_ ?_
                  · intro c12
                    refine s_skip ?_
                    first | refine s_tp rfl (by first | assumption | omega) ?_ | refine s_tn rfl (by first | assumption | omega) ?_ | refine s_true (by simp [look, opd, *]) ?_
                    refine s_seq ?_
                    refine o_enter rfl ?_
                    first | refine o_fieldAddr rfl .free rfl ?_ | refine o_fieldAddr' rfl .free rfl ?_
                    refine o_load rfl (by first | exact loads_still1 (by assumption) rfl | exact loads_ownS (by first | exact m0 | exact m1 | exact m2 | exact m3 | exact m4 | exact m5 | exact m6) (by rfl) | exact loads_own1 (by first | exact m0 | exact m1 | exact m2 | exact m3 | exact m4 | exact m5 | exact m6) (by rfl) rfl | exact loads_stillS (by assumption) (by rfl) | exact loads_stillF (by assumption) (by rfl) rfl) .free rfl ?_
                    refine o_len_slice rfl .free rfl ?_
                    refine o_cmp rfl rfl rfl .free rfl ?_
                    refine o_done ?_
                    first | refine s_if rfl ?_ ?_ | refine s_ifn rfl ?_ ?_ | refine s_cond rfl ?_ ?_
                    · intro c14
                      refine s_seq ?_
                      refine o_enter rfl ?_
                      refine o_lits rfl rfl (by rfl) (by rfl) (by rfl) (by decide) (by decide) (by rfl) .free rfl ?_
                      intro b44
                      refine o_assign rfl .free rfl ?_
                      refine o_done ?_
                      refine s_freeze ?_
                      intro hz
                      refine s_ret (.tmp rfl .nil) ?_
                      refine ⟨_, L, hz, fun _ h => h.drop, KD_lit (l := [1]) ?_⟩
                      have hl : t.parts.length = 2 := by omega
                      unfold kids kidRange tCall tPair tIf tLet tFun tFst tSnd
                      simp only [*, true_or, or_true, or_false, false_or, if_true, if_false]
                      rfl
                    · intro c14
                      refine s_skip ?_
                      refine s_inBlock ?_
                      refine s_seq ?_
                      refine o_enter rfl ?_
                      refine o_assign rfl .free rfl ?_
                      refine o_done ?_
                      refine s_ret (.tmp rfl .nil) ?_
                      have hk : kids t = [] := by
                        unfold kids kidRange tCall tPair tIf tLet tFun tFst tSnd
                        first
                          | (have hl : ¬ t.parts.length = 3 := by omega
                             simp [*]; done)
                          | (have hl : ¬ t.parts.length = 4 := by omega
                             simp [*]; done)
                          | (have hl : ¬ t.parts.length = 6 := by omega
                             simp [*]; done)
                          | (have hl : ¬ t.parts.length = 2 := by omega
                             simp [*]; done)
                          | (simp [*]; done)
                      exact ⟨I, L, .refl _, fun _ h => h.drop, none, 0, by rw [hk]; rfl, ⟨by simp, fun _ => hk, by rw [hk]; simp⟩, rfl⟩
                  · intro c12
                    refine o_enter rfl ?_
                    refine o_cmps rfl rfl rfl .free rfl ?_
                    refine o_assign rfl .free rfl ?_
                    refine o_done ?_
                    first | refine s_if rfl ?_ ?_ | refine s_ifn rfl ?_ ?_ | refine s_cond rfl ?_ ?_
                    · intro c13
                      refine s_seq ?_
                      refine o_enter rfl ?_
                      first | refine o_fieldAddr rfl .free rfl ?_ | refine o_fieldAddr' rfl .free rfl ?_
                      refine o_load rfl (by first | exact loads_still1 (by assumption) rfl | exact loads_ownS (by first | exact m0 | exact m1 | exact m2 | exact m3 | exact m4 | exact m5 | exact m6) (by rfl) | exact loads_own1 (by first | exact m0 | exact m1 | exact m2 | exact m3 | exact m4 | exact m5 | exact m6) (by rfl) rfl | exact loads_stillS (by assumption) (by rfl) | exact loads_stillF (by assumption) (by rfl) rfl) .free rfl ?_
                      refine o_len_slice rfl .free rfl ?_
                      refine o_cmp rfl rfl rfl .free rfl ?_
                      refine o_done ?_
                      first | refine s_if rfl ?_ ?_ | refine s_ifn rfl ?_ ?_ | refine s_cond rfl ?_ ?_
                      · intro c14
                        refine s_seq ?_
                        refine o_enter rfl ?_
                        refine o_lits rfl rfl (by rfl) (by rfl) (by rfl) (by decide) (by decide) (by rfl) .free rfl ?_
                        intro b44
                        refine o_assign rfl .free rfl ?_
                        refine o_done ?_
                        refine s_freeze ?_
                        intro hz
                        refine s_ret (.tmp rfl .nil) ?_
                        refine ⟨_, L, hz, fun _ h => h.drop, KD_lit (l := [1]) ?_⟩
                        have hl : t.parts.length = 2 := by omega
                        unfold kids kidRange tCall tPair tIf tLet tFun tFst tSnd
                        simp only [*, true_or, or_true, or_false, false_or, if_true, if_false]
                        rfl
                      · intro c14
                        refine s_skip ?_
                        refine s_inBlock ?_
                        refine s_seq ?_
                        refine o_enter rfl ?_
                        refine o_assign rfl .free rfl ?_
                        refine o_done ?_
                        refine s_ret (.tmp rfl .nil) ?_
                        have hk : kids t = [] := by
                          unfold kids kidRange tCall tPair tIf tLet tFun tFst tSnd
                          first
                            | (have hl : ¬ t.parts.length = 3 := by omega
                               simp [*]; done)
                            | (have hl : ¬ t.parts.length = 4 := by omega
                               simp [*]; done)
                            | (have hl : ¬ t.parts.length = 6 := by omega
                               simp [*]; done)
                            | (have hl : ¬ t.parts.length = 2 := by omega
                               simp [*]; done)
                            | (simp [*]; done)
                        exact ⟨I, L, .refl _, fun _ h => h.drop, none, 0, by rw [hk]; rfl, ⟨by simp, fun _ => hk, by rw [hk]; simp⟩, rfl⟩
                    · intro c13
                      refine s_skip ?_
                      refine s_inBlock ?_
                      refine s_seq ?_
                      refine o_enter rfl ?_
                      refine o_assign rfl .free rfl ?_
                      refine o_done ?_
                      refine s_ret (.tmp rfl .nil) ?_
                      have hk : kids t = [] := by
                        unfold kids kidRange tCall tPair tIf tLet tFun tFst tSnd
                        first
                          | (have hl : ¬ t.parts.length = 3 := by omega
                             simp [*]; done)
                          | (have hl : ¬ t.parts.length = 4 := by omega
                             simp [*]; done)
                          | (have hl : ¬ t.parts.length = 6 := by omega
                             simp [*]; done)
                          | (have hl : ¬ t.parts.length = 2 := by omega
                             simp [*]; done)
                          | (simp [*]; done)
                      exact ⟨I, L, .refl _, fun _ h => h.drop, none, 0, by rw [hk]; rfl, ⟨by simp, fun _ => hk, by rw [hk]; simp⟩, rfl⟩
end Go.Proofs.Ytekfjhopngcneaa
