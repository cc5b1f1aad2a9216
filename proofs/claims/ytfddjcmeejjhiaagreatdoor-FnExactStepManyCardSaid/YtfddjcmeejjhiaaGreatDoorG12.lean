/- A step, by the reference. No conditions. -/
import Derived.Test.YtfddjcmeejjhiaaGreatDoorG11
import Derived.LaidSub
import Derived.Lib.LaidTab
namespace Go.Proofs.YtfddjcmeejjhiaaGreatDoor
set_option maxRecDepth 100000
set_option linter.unusedVariables false
set_option linter.unusedSimpArgs false

def StepG (N : Nat) : Prop := ∀ {I : Heap} {e : Ex} {cs : List Value} (_ : SizeOf.sizeOf e < N) (_ : Rep I e.tree cs) (_ : e.ok = true) (L : Own), Fun Tryz.prog 37 [.agg cs.toArray] I L (SP e.step L)
theorem val_num {e : Ex} (hn : isNum e.tree.atom = true) (hok : e.ok = true) : ∃ s, e = .num s := by
 cases e with
 | num s => exact ⟨s, rfl⟩
 | name s => have h2 := name_not_num (show isName s = true from hok); rw [show isNum s = true from hn] at h2; cases h2
 | _ => cases hn
def nvT (s : Txt) : Int := bif isNum s then numVal s else 0
theorem nvT_in (s : Txt) : -999 ≤ nvT s ∧ nvT s ≤ 999 := by
 unfold nvT
 cases h : isNum s with
 | true => exact numVal_in h
 | false => exact ⟨by simp, by simp⟩
theorem nvT_num {s : Txt} (h : isNum s = true) : nvT s = numVal s := by unfold nvT; rw [h]; rfl
theorem SP.same {I : Heap} {o : Option Ex} {t : Tree} {ds : List Value} {L : Own} (h : Rep I t ds) (ho : o = none) : SP o L (.tuple #[.agg (List.toArray ds), .bool false]) I L :=
 ⟨t, ds, by rw [ho]; rfl, h, fun e' h => (by rw [ho] at h; cases h), rfl⟩
set_option maxHeartbeats 1000000 in
theorem gturn_add {a b : Ex} {I : Heap} {cs : List Value} (h : Rep I (Ex.bin .add a b).tree cs) (hok : (Ex.bin .add a b).ok = true) (L : Own) :
  Fun Tryz.prog 71 [.agg cs.toArray] I L (SP (Ex.bin .add a b).turn L) := by
 obtain ⟨oa, c, oaf, cf, rfl, hf⟩ := h.at'
 have hlen : (Ex.bin .add a b).tree.parts.length = 3 := rfl
 obtain ⟨xa, rfl⟩ : ∃ xa, oa = some xa := ⟨_, some_oad hf.nil (show 0 < 3 by decide)⟩
 have hhd : ((Ex.bin .add a b).tree.pt 0).atom = [43] := rfl
 have hle : HLe I I := .refl _
 have hok0 := hok
 simp only [Ex.ok, Bool.and_eq_true, decide_eq_true_eq] at hok
 refine fun_intro (by simp) ?_
 refine Se rfl ?_
 refine o_box rfl rfl .free rfl ?_
 intro b1
 refine o_alloc .free rfl ?_
 intro b2
 refine Oa rfl (o_done (Se rfl (Oh rfl ?_)))
 refine o_lO1 rfl .free rfl ?_
 first | refine o_ixD rfl rfl 0 rfl .free rfl ?_ | refine o_ixP rfl rfl 0 rfl .free rfl ?_
 refine o_fieldAddr' rfl .free rfl ?_
 refine o_lIF rfl .free rfl ?_
 refine o_put (t := 15) (v' := .string (str [43])) rfl rfl ?_
 refine Oa rfl (o_done (Se rfl (Oh rfl ?_)))
 refine o_lO1 rfl .free rfl ?_
 refine Oa rfl (o_done (Se rfl (Om rfl ?_)))
 first | refine o_ixD rfl rfl 1 rfl .free rfl ?_ | refine o_ixP rfl rfl 1 rfl .free rfl ?_
 refine o_fieldAddr' rfl .free rfl ?_
 refine o_lIF rfl .free rfl ?_
 refine o_call rfl .free rfl (g_l2Number ((Ex.bin .add a b).tree.pt 1).atom (hf.rp 1 (show 1 < 3 by decide)).atom_le _ _) ?_
 rintro _ _ _ _ ⟨rfl, rfl, rfl⟩
 refine Om rfl (Oe rfl rfl (Oe rfl rfl (Oa rfl (Oa rfl (o_done (Se rfl (Om rfl (Om rfl (On rfl ?_)))))))))
 refine Or rfl rfl rfl ?_
 refine o_put (t := 30) (v' := .int .i64 ((2 : Nat))) rfl (by rfl) ?_
 first | refine o_ixD rfl rfl _ rfl .free rfl ?_ | refine o_ixP rfl rfl _ rfl .free rfl ?_
 refine o_fieldAddr' rfl .free rfl ?_
 refine o_lIF rfl .free rfl ?_
 refine o_call rfl .free rfl (g_l2Number ((Ex.bin .add a b).tree.pt 2).atom (hf.rp 2 (show 2 < 3 by decide)).atom_le _ _) ?_
 rintro _ _ _ _ ⟨rfl, rfl, rfl⟩
 refine Om rfl (Oe rfl rfl (Oe rfl rfl (Oa rfl (Oa rfl (o_done (s_seq (Se rfl (Om rfl (o_done (s_block (s_seq (Se rfl (Od rfl rfl rfl (Oa rfl (o_done ?_)))))))))))))))
 first | refine s_tp rfl (rfl) ?_ | refine s_tn rfl (rfl) ?_ | refine s_true (by simp [look, opd, *]) ?_
 refine s_skip ?_
 first | refine s_tp rfl (rfl) ?_ | refine s_tn rfl (rfl) ?_ | refine s_true (by simp [look, opd, *]) ?_
 refine Se rfl ?_
 iterate 3 refine Om rfl ?_
 refine o_call rfl .free rfl (g_l4Count .add (nvT a.tree.atom) (nvT b.tree.atom) (nvT_in _) (nvT_in _) _ _) ?_
 rintro _ _ _ _ ⟨rfl, rfl, rfl⟩
 refine o_call rfl .free rfl (g_l6DecZ (shortN (B5.calc .add (nvT a.tree.atom) (nvT b.tree.atom))) (by have := shortN_in (B5.calc .add (nvT a.tree.atom) (nvT b.tree.atom)); omega) (by have := shortN_in (B5.calc .add (nvT a.tree.atom) (nvT b.tree.atom)); omega) _ _) ?_
 rintro _ _ _ _ ⟨rfl, rfl, rfl⟩
 refine o_call rfl .free rfl (g_l1Atom (intT (shortN (B5.calc .add (nvT a.tree.atom) (nvT b.tree.atom)))) _ _) ?_
 rintro _ _ _ _ ⟨rfl, rfl, rfl⟩
 refine Om rfl (Om rfl ?_)
 apply o_and 49 51 rfl
 ·intro g9_8 hk
  try simp only [nb] at g9_8
  refine Ow rfl (Ot rfl rfl ?_)
  exact o_fin 1 rfl rfl hk
 ·intro _ hk
  refine o_skips 1 rfl ?_
  refine Of rfl rfl ?_
  exact o_fin 1 rfl rfl hk
 refine o_st rfl rfl rfl rfl .free ?_
 refine Oa rfl (o_done ?_)
 refine s_ret (.c rfl (.tmp rfl .nil)) ?_
 have hsh := shortN_in (B5.calc .add (nvT a.tree.atom) (nvT b.tree.atom))
 have hil := isNum_len (intT_num hsh.1 hsh.2).1
 refine ⟨I, L, hle, drops, .node (intT (shortN (B5.calc .add (nvT a.tree.atom) (nvT b.tree.atom)))) [], _, ?_, .ofAtom (by unfold maxN; omega), fun e' he' => ?_, rfl⟩
 ·have hi : (Ex.bin .add a b).turn.isSome = (isNum a.tree.atom && isNum b.tree.atom) := by
   cases ha : isNum a.tree.atom with
   | true =>
    obtain ⟨p, rfl⟩ := val_num ha hok.1
    cases hb : isNum b.tree.atom with
    | true => obtain ⟨q, rfl⟩ := val_num hb hok.2; rfl
    | false =>
     cases hty : (Ex.bin .add (.num p) b).turn with
     | none => rfl
     | some e' =>
      rcases turn_bin hty with ⟨f, y, s, t, g, ho, _, rfl⟩ | ⟨p', q, ho, _, rfl, rfl⟩
      ·cases ho
      ·rw [show isNum (Ex.num q).tree.atom = true from hok.2] at hb; cases hb
   | false =>
    cases hty : (Ex.bin .add a b).turn with
    | none => rfl
    | some e' =>
     rcases turn_bin hty with ⟨f, y, s, t, g, ho, _, rfl⟩ | ⟨p', q, ho, rfl, _, rfl⟩
     ·cases ho
     ·rw [show isNum (Ex.num p').tree.atom = true from hok.1] at ha; cases ha
  rw [hi]; rfl
 ·rcases turn_bin he' with ⟨f, y, s, t, g, ho, _, rfl⟩ | ⟨p', q, ho, rfl, rfl, rfl⟩
  ·cases ho
  ·have h1 : nvT (Ex.num p').tree.atom = numVal p' := nvT_num hok.1
   have h2 : nvT (Ex.num q).tree.atom = numVal q := nvT_num hok.2
   rw [h1, h2]; rfl
set_option maxHeartbeats 1000000 in
theorem gturn_sub {a b : Ex} {I : Heap} {cs : List Value} (h : Rep I (Ex.bin .sub a b).tree cs) (hok : (Ex.bin .sub a b).ok = true) (L : Own) :
  Fun Tryz.prog 71 [.agg cs.toArray] I L (SP (Ex.bin .sub a b).turn L) := by
 obtain ⟨oa, c, oaf, cf, rfl, hf⟩ := h.at'
 have hlen : (Ex.bin .sub a b).tree.parts.length = 3 := rfl
 obtain ⟨xa, rfl⟩ : ∃ xa, oa = some xa := ⟨_, some_oad hf.nil (show 0 < 3 by decide)⟩
 have hhd : ((Ex.bin .sub a b).tree.pt 0).atom = [45] := rfl
 have hle : HLe I I := .refl _
 have hok0 := hok
 simp only [Ex.ok, Bool.and_eq_true, decide_eq_true_eq] at hok
 refine fun_intro (by simp) ?_
 refine Se rfl ?_
 refine o_box rfl rfl .free rfl ?_
 intro b1
 refine o_alloc .free rfl ?_
 intro b2
 refine Oa rfl (o_done (Se rfl (Oh rfl ?_)))
 refine o_lO1 rfl .free rfl ?_
 first | refine o_ixD rfl rfl 0 rfl .free rfl ?_ | refine o_ixP rfl rfl 0 rfl .free rfl ?_
 refine o_fieldAddr' rfl .free rfl ?_
 refine o_lIF rfl .free rfl ?_
 refine o_put (t := 15) (v' := .string (str [45])) rfl rfl ?_
 refine Oa rfl (o_done (Se rfl (Oh rfl ?_)))
 refine o_lO1 rfl .free rfl ?_
 refine Oa rfl (o_done (Se rfl (Om rfl ?_)))
 first | refine o_ixD rfl rfl 1 rfl .free rfl ?_ | refine o_ixP rfl rfl 1 rfl .free rfl ?_
 refine o_fieldAddr' rfl .free rfl ?_
 refine o_lIF rfl .free rfl ?_
 refine o_call rfl .free rfl (g_l2Number ((Ex.bin .sub a b).tree.pt 1).atom (hf.rp 1 (show 1 < 3 by decide)).atom_le _ _) ?_
 rintro _ _ _ _ ⟨rfl, rfl, rfl⟩
 refine Om rfl (Oe rfl rfl (Oe rfl rfl (Oa rfl (Oa rfl (o_done (Se rfl (Om rfl (Om rfl (On rfl ?_)))))))))
 refine Or rfl rfl rfl ?_
 refine o_put (t := 30) (v' := .int .i64 ((2 : Nat))) rfl (by rfl) ?_
 first | refine o_ixD rfl rfl _ rfl .free rfl ?_ | refine o_ixP rfl rfl _ rfl .free rfl ?_
 refine o_fieldAddr' rfl .free rfl ?_
 refine o_lIF rfl .free rfl ?_
 refine o_call rfl .free rfl (g_l2Number ((Ex.bin .sub a b).tree.pt 2).atom (hf.rp 2 (show 2 < 3 by decide)).atom_le _ _) ?_
 rintro _ _ _ _ ⟨rfl, rfl, rfl⟩
 refine Om rfl (Oe rfl rfl (Oe rfl rfl (Oa rfl (Oa rfl (o_done (s_seq (Se rfl (Om rfl (o_done (s_block (s_seq (Se rfl (Od rfl rfl rfl (Oa rfl (o_done ?_)))))))))))))))
 first | refine s_fp rfl (by decide) ?_ | refine s_fn rfl (by decide) ?_ | refine s_false (by simp [look, opd, *]) ?_
 refine Se rfl (Od rfl rfl rfl (Oa rfl (o_done ?_)))
 first | refine s_tp rfl (rfl) ?_ | refine s_tn rfl (rfl) ?_ | refine s_true (by simp [look, opd, *]) ?_
 refine s_skip ?_
 first | refine s_tp rfl (rfl) ?_ | refine s_tn rfl (rfl) ?_ | refine s_true (by simp [look, opd, *]) ?_
 refine Se rfl ?_
 iterate 3 refine Om rfl ?_
 refine o_call rfl .free rfl (g_l4Count .sub (nvT a.tree.atom) (nvT b.tree.atom) (nvT_in _) (nvT_in _) _ _) ?_
 rintro _ _ _ _ ⟨rfl, rfl, rfl⟩
 refine o_call rfl .free rfl (g_l6DecZ (shortN (B5.calc .sub (nvT a.tree.atom) (nvT b.tree.atom))) (by have := shortN_in (B5.calc .sub (nvT a.tree.atom) (nvT b.tree.atom)); omega) (by have := shortN_in (B5.calc .sub (nvT a.tree.atom) (nvT b.tree.atom)); omega) _ _) ?_
 rintro _ _ _ _ ⟨rfl, rfl, rfl⟩
 refine o_call rfl .free rfl (g_l1Atom (intT (shortN (B5.calc .sub (nvT a.tree.atom) (nvT b.tree.atom)))) _ _) ?_
 rintro _ _ _ _ ⟨rfl, rfl, rfl⟩
 refine Om rfl (Om rfl ?_)
 apply o_and 49 51 rfl
 ·intro g9_8 hk
  try simp only [nb] at g9_8
  refine Ow rfl (Ot rfl rfl ?_)
  exact o_fin 1 rfl rfl hk
 ·intro _ hk
  refine o_skips 1 rfl ?_
  refine Of rfl rfl ?_
  exact o_fin 1 rfl rfl hk
 refine o_st rfl rfl rfl rfl .free ?_
 refine Oa rfl (o_done ?_)
 refine s_ret (.c rfl (.tmp rfl .nil)) ?_
 have hsh := shortN_in (B5.calc .sub (nvT a.tree.atom) (nvT b.tree.atom))
 have hil := isNum_len (intT_num hsh.1 hsh.2).1
 refine ⟨I, L, hle, drops, .node (intT (shortN (B5.calc .sub (nvT a.tree.atom) (nvT b.tree.atom)))) [], _, ?_, .ofAtom (by unfold maxN; omega), fun e' he' => ?_, rfl⟩
 ·have hi : (Ex.bin .sub a b).turn.isSome = (isNum a.tree.atom && isNum b.tree.atom) := by
   cases ha : isNum a.tree.atom with
   | true =>
    obtain ⟨p, rfl⟩ := val_num ha hok.1
    cases hb : isNum b.tree.atom with
    | true => obtain ⟨q, rfl⟩ := val_num hb hok.2; rfl
    | false =>
     cases hty : (Ex.bin .sub (.num p) b).turn with
     | none => rfl
     | some e' =>
      rcases turn_bin hty with ⟨f, y, s, t, g, ho, _, rfl⟩ | ⟨p', q, ho, _, rfl, rfl⟩
      ·cases ho
      ·rw [show isNum (Ex.num q).tree.atom = true from hok.2] at hb; cases hb
   | false =>
    cases hty : (Ex.bin .sub a b).turn with
    | none => rfl
    | some e' =>
     rcases turn_bin hty with ⟨f, y, s, t, g, ho, _, rfl⟩ | ⟨p', q, ho, rfl, _, rfl⟩
     ·cases ho
     ·rw [show isNum (Ex.num p').tree.atom = true from hok.1] at ha; cases ha
  rw [hi]; rfl
 ·rcases turn_bin he' with ⟨f, y, s, t, g, ho, _, rfl⟩ | ⟨p', q, ho, rfl, rfl, rfl⟩
  ·cases ho
  ·have h1 : nvT (Ex.num p').tree.atom = numVal p' := nvT_num hok.1
   have h2 : nvT (Ex.num q).tree.atom = numVal q := nvT_num hok.2
   rw [h1, h2]; rfl
set_option maxHeartbeats 1000000 in
theorem gturn_mul {a b : Ex} {I : Heap} {cs : List Value} (h : Rep I (Ex.bin .mul a b).tree cs) (hok : (Ex.bin .mul a b).ok = true) (L : Own) :
  Fun Tryz.prog 71 [.agg cs.toArray] I L (SP (Ex.bin .mul a b).turn L) := by
 obtain ⟨oa, c, oaf, cf, rfl, hf⟩ := h.at'
 have hlen : (Ex.bin .mul a b).tree.parts.length = 3 := rfl
 obtain ⟨xa, rfl⟩ : ∃ xa, oa = some xa := ⟨_, some_oad hf.nil (show 0 < 3 by decide)⟩
 have hhd : ((Ex.bin .mul a b).tree.pt 0).atom = [42] := rfl
 have hle : HLe I I := .refl _
 have hok0 := hok
 simp only [Ex.ok, Bool.and_eq_true, decide_eq_true_eq] at hok
 refine fun_intro (by simp) ?_
 refine Se rfl ?_
 refine o_box rfl rfl .free rfl ?_
 intro b1
 refine o_alloc .free rfl ?_
 intro b2
 refine Oa rfl (o_done (Se rfl (Oh rfl ?_)))
 refine o_lO1 rfl .free rfl ?_
 first | refine o_ixD rfl rfl 0 rfl .free rfl ?_ | refine o_ixP rfl rfl 0 rfl .free rfl ?_
 refine o_fieldAddr' rfl .free rfl ?_
 refine o_lIF rfl .free rfl ?_
 refine o_put (t := 15) (v' := .string (str [42])) rfl rfl ?_
 refine Oa rfl (o_done (Se rfl (Oh rfl ?_)))
 refine o_lO1 rfl .free rfl ?_
 refine Oa rfl (o_done (Se rfl (Om rfl ?_)))
 first | refine o_ixD rfl rfl 1 rfl .free rfl ?_ | refine o_ixP rfl rfl 1 rfl .free rfl ?_
 refine o_fieldAddr' rfl .free rfl ?_
 refine o_lIF rfl .free rfl ?_
 refine o_call rfl .free rfl (g_l2Number ((Ex.bin .mul a b).tree.pt 1).atom (hf.rp 1 (show 1 < 3 by decide)).atom_le _ _) ?_
 rintro _ _ _ _ ⟨rfl, rfl, rfl⟩
 refine Om rfl (Oe rfl rfl (Oe rfl rfl (Oa rfl (Oa rfl (o_done (Se rfl (Om rfl (Om rfl (On rfl ?_)))))))))
 refine Or rfl rfl rfl ?_
 refine o_put (t := 30) (v' := .int .i64 ((2 : Nat))) rfl (by rfl) ?_
 first | refine o_ixD rfl rfl _ rfl .free rfl ?_ | refine o_ixP rfl rfl _ rfl .free rfl ?_
 refine o_fieldAddr' rfl .free rfl ?_
 refine o_lIF rfl .free rfl ?_
 refine o_call rfl .free rfl (g_l2Number ((Ex.bin .mul a b).tree.pt 2).atom (hf.rp 2 (show 2 < 3 by decide)).atom_le _ _) ?_
 rintro _ _ _ _ ⟨rfl, rfl, rfl⟩
 refine Om rfl (Oe rfl rfl (Oe rfl rfl (Oa rfl (Oa rfl (o_done (s_seq (Se rfl (Om rfl (o_done (s_block (s_seq (Se rfl (Od rfl rfl rfl (Oa rfl (o_done ?_)))))))))))))))
 first | refine s_fp rfl (by decide) ?_ | refine s_fn rfl (by decide) ?_ | refine s_false (by simp [look, opd, *]) ?_
 refine Se rfl (Od rfl rfl rfl (Oa rfl (o_done ?_)))
 first | refine s_fp rfl (by decide) ?_ | refine s_fn rfl (by decide) ?_ | refine s_false (by simp [look, opd, *]) ?_
 refine o_enter rfl (Od rfl rfl rfl (Oa rfl (o_done ?_)))
 first | refine s_tp rfl (rfl) ?_ | refine s_tn rfl (rfl) ?_ | refine s_true (by simp [look, opd, *]) ?_
 refine Se rfl ?_
 iterate 3 refine Om rfl ?_
 refine o_call rfl .free rfl (g_l4Count .mul (nvT a.tree.atom) (nvT b.tree.atom) (nvT_in _) (nvT_in _) _ _) ?_
 rintro _ _ _ _ ⟨rfl, rfl, rfl⟩
 refine o_call rfl .free rfl (g_l6DecZ (shortN (B5.calc .mul (nvT a.tree.atom) (nvT b.tree.atom))) (by have := shortN_in (B5.calc .mul (nvT a.tree.atom) (nvT b.tree.atom)); omega) (by have := shortN_in (B5.calc .mul (nvT a.tree.atom) (nvT b.tree.atom)); omega) _ _) ?_
 rintro _ _ _ _ ⟨rfl, rfl, rfl⟩
 refine o_call rfl .free rfl (g_l1Atom (intT (shortN (B5.calc .mul (nvT a.tree.atom) (nvT b.tree.atom)))) _ _) ?_
 rintro _ _ _ _ ⟨rfl, rfl, rfl⟩
 refine Om rfl (Om rfl ?_)
 apply o_and 49 51 rfl
 ·intro g9_8 hk
  try simp only [nb] at g9_8
  refine Ow rfl (Ot rfl rfl ?_)
  exact o_fin 1 rfl rfl hk
 ·intro _ hk
  refine o_skips 1 rfl ?_
  refine Of rfl rfl ?_
  exact o_fin 1 rfl rfl hk
 refine o_st rfl rfl rfl rfl .free ?_
 refine Oa rfl (o_done ?_)
 refine s_ret (.c rfl (.tmp rfl .nil)) ?_
 have hsh := shortN_in (B5.calc .mul (nvT a.tree.atom) (nvT b.tree.atom))
 have hil := isNum_len (intT_num hsh.1 hsh.2).1
 refine ⟨I, L, hle, drops, .node (intT (shortN (B5.calc .mul (nvT a.tree.atom) (nvT b.tree.atom)))) [], _, ?_, .ofAtom (by unfold maxN; omega), fun e' he' => ?_, rfl⟩
 ·have hi : (Ex.bin .mul a b).turn.isSome = (isNum a.tree.atom && isNum b.tree.atom) := by
   cases ha : isNum a.tree.atom with
   | true =>
    obtain ⟨p, rfl⟩ := val_num ha hok.1
    cases hb : isNum b.tree.atom with
    | true => obtain ⟨q, rfl⟩ := val_num hb hok.2; rfl
    | false =>
     cases hty : (Ex.bin .mul (.num p) b).turn with
     | none => rfl
     | some e' =>
      rcases turn_bin hty with ⟨f, y, s, t, g, ho, _, rfl⟩ | ⟨p', q, ho, _, rfl, rfl⟩
      ·cases ho
      ·rw [show isNum (Ex.num q).tree.atom = true from hok.2] at hb; cases hb
   | false =>
    cases hty : (Ex.bin .mul a b).turn with
    | none => rfl
    | some e' =>
     rcases turn_bin hty with ⟨f, y, s, t, g, ho, _, rfl⟩ | ⟨p', q, ho, rfl, _, rfl⟩
     ·cases ho
     ·rw [show isNum (Ex.num p').tree.atom = true from hok.1] at ha; cases ha
  rw [hi]; rfl
 ·rcases turn_bin he' with ⟨f, y, s, t, g, ho, _, rfl⟩ | ⟨p', q, ho, rfl, rfl, rfl⟩
  ·cases ho
  ·have h1 : nvT (Ex.num p').tree.atom = numVal p' := nvT_num hok.1
   have h2 : nvT (Ex.num q).tree.atom = numVal q := nvT_num hok.2
   rw [h1, h2]; rfl
set_option maxHeartbeats 1000000 in
theorem gturn_call {a b : Ex} {I : Heap} {cs : List Value} (h : Rep I (Ex.bin .call a b).tree cs) (hok : (Ex.bin .call a b).ok = true) (L : Own) :
  Fun Tryz.prog 71 [.agg cs.toArray] I L (SP (Ex.bin .call a b).turn L) := by
 obtain ⟨oa, c, oaf, cf, rfl, hf⟩ := h.at'
 have hlen : (Ex.bin .call a b).tree.parts.length = 3 := rfl
 obtain ⟨xa, rfl⟩ : ∃ xa, oa = some xa := ⟨_, some_oad hf.nil (show 0 < 3 by decide)⟩
 have hhd : ((Ex.bin .call a b).tree.pt 0).atom = [99, 97, 108, 108] := rfl
 have hle : HLe I I := .refl _
 have hok0 := hok
 simp only [Ex.ok, Bool.and_eq_true, decide_eq_true_eq] at hok
 refine fun_intro (by simp) ?_
 refine Se rfl ?_
 refine o_box rfl rfl .free rfl ?_
 intro b1
 refine o_alloc .free rfl ?_
 intro b2
 refine Oa rfl (o_done (Se rfl (Oh rfl ?_)))
 refine o_lO1 rfl .free rfl ?_
 first | refine o_ixD rfl rfl 0 rfl .free rfl ?_ | refine o_ixP rfl rfl 0 rfl .free rfl ?_
 refine o_fieldAddr' rfl .free rfl ?_
 refine o_lIF rfl .free rfl ?_
 refine o_put (t := 15) (v' := .string (str [99, 97, 108, 108])) rfl rfl ?_
 refine Oa rfl (o_done (Se rfl (Oh rfl ?_)))
 refine o_lO1 rfl .free rfl ?_
 refine Oa rfl (o_done (Se rfl (Om rfl ?_)))
 first | refine o_ixD rfl rfl 1 rfl .free rfl ?_ | refine o_ixP rfl rfl 1 rfl .free rfl ?_
 refine o_fieldAddr' rfl .free rfl ?_
 refine o_lIF rfl .free rfl ?_
 refine o_call rfl .free rfl (g_l2Number ((Ex.bin .call a b).tree.pt 1).atom (hf.rp 1 (show 1 < 3 by decide)).atom_le _ _) ?_
 rintro _ _ _ _ ⟨rfl, rfl, rfl⟩
 refine Om rfl (Oe rfl rfl (Oe rfl rfl (Oa rfl (Oa rfl (o_done (Se rfl (Om rfl (Om rfl (On rfl ?_)))))))))
 refine Or rfl rfl rfl ?_
 refine o_put (t := 30) (v' := .int .i64 ((2 : Nat))) rfl (by rfl) ?_
 first | refine o_ixD rfl rfl _ rfl .free rfl ?_ | refine o_ixP rfl rfl _ rfl .free rfl ?_
 refine o_fieldAddr' rfl .free rfl ?_
 refine o_lIF rfl .free rfl ?_
 refine o_call rfl .free rfl (g_l2Number ((Ex.bin .call a b).tree.pt 2).atom (hf.rp 2 (show 2 < 3 by decide)).atom_le _ _) ?_
 rintro _ _ _ _ ⟨rfl, rfl, rfl⟩
 refine Om rfl (Oe rfl rfl (Oe rfl rfl (Oa rfl (Oa rfl (o_done (s_seq (Se rfl (Om rfl (o_done (s_block (s_seq (Se rfl (Od rfl rfl rfl (Oa rfl (o_done ?_)))))))))))))))
 first | refine s_fp rfl (by decide) ?_ | refine s_fn rfl (by decide) ?_ | refine s_false (by simp [look, opd, *]) ?_
 refine Se rfl (Od rfl rfl rfl (Oa rfl (o_done ?_)))
 first | refine s_fp rfl (by decide) ?_ | refine s_fn rfl (by decide) ?_ | refine s_false (by simp [look, opd, *]) ?_
 refine o_enter rfl (Od rfl rfl rfl (Oa rfl (o_done ?_)))
 first | refine s_fp rfl (by decide) ?_ | refine s_fn rfl (by decide) ?_ | refine s_false (by simp [look, opd, *]) ?_
 refine Se rfl (Od rfl rfl rfl (Oa rfl (o_done ?_)))
 first | refine s_fp rfl (by decide) ?_ | refine s_fn rfl (by decide) ?_ | refine s_false (by simp [look, opd, *]) ?_
 refine Se rfl (Od rfl rfl rfl (Oa rfl (o_done ?_)))
 first | refine s_fp rfl (by decide) ?_ | refine s_fn rfl (by decide) ?_ | refine s_false (by simp [look, opd, *]) ?_
 refine Se rfl (Od rfl rfl rfl (Oa rfl (o_done ?_)))
 first | refine s_tp rfl (rfl) ?_ | refine s_tn rfl (rfl) ?_ | refine s_true (by simp [look, opd, *]) ?_
 refine s_seq (Se rfl (Om rfl ?_))
 first | refine o_ixD rfl rfl 1 rfl .free rfl ?_ | refine o_ixP rfl rfl 1 rfl .free rfl ?_
 refine o_lIS rfl .free rfl ?_
 refine o_call rfl .free rfl (g_l4Head (hf.as 1 a.tree (by omega) rfl) (Ex.tree_good hok.1).1 _) ?_
 rintro _ _ _ _ ⟨rfl, rfl, rfl⟩
 refine Od rfl rfl rfl (o_done ?_)
 refine s_cond rfl ?_ ?_
 ·intro c6
  try simp only [nb] at c6
  have hno : (Ex.bin .call a b).turn = none := by
   cases hty : (Ex.bin .call a b).turn with
   | none => rfl
   | some e' =>
    rcases turn_bin hty with ⟨f, y, s, t, g, ho, rfl, rfl⟩ | ⟨p, q, ho, rfl, rfl, rfl⟩
    ·exact absurd rfl c6
    ·cases ho
  refine Se rfl ?_
  refine o_lOS rfl .free rfl ?_
  refine o_st rfl rfl rfl rfl .free ?_
  refine Oa rfl (o_done ?_)
  refine s_ret (.c rfl (.tmp rfl .nil)) ?_
  exact ⟨_, L, hle, drops, SP.same hf.rep hno⟩
 intro c6
 try simp only [nb] at c6
 obtain ⟨f, y, s, t, g, rfl⟩ := Ex.of_fun (show a.tree.head = tFun from c6)
 have hra := hf.as 1 (Ex.fn f y s t g).tree (by omega) rfl
 obtain ⟨oa2, c2, oaf2, cf2, he2, hf2⟩ := hra.at'
 simp only [List.cons.injEq, Value.slice.injEq, and_true, true_and] at he2
 obtain ⟨rfl, rfl⟩ := he2
 obtain ⟨xa2, hxa2⟩ : ∃ x, oaf 1 = some x := ⟨_, some_oad hf2.nil (show 0 < 6 by decide)⟩
 have hok2 := hok.1
 simp only [Ex.ok, Bool.and_eq_true, decide_eq_true_eq] at hok2
 have hl2 : (Ex.fn f y s t g).tree.parts.length = 6 := rfl
 refine s_skip (Se rfl (Om rfl ?_))
 first | refine o_ixD rfl rfl 1 rfl .free rfl ?_ | refine o_ixP rfl rfl 1 rfl .free rfl ?_
 refine o_fieldAddr' rfl .free rfl ?_
 refine o_lIF rfl .free rfl ?_
 refine Oa rfl (o_done (s_seq ?_))
 refine d_all 21 rfl rfl ?_
 refine Da 0 rfl (y_move rfl) ?_
 first | refine Da 1 rfl (y_ixD rfl rfl 5 rfl) ?_ | refine Da 1 rfl (y_ixP rfl rfl 5 rfl) ?_
 refine Dt 2 [19] rfl (y_lIS rfl) ?_
 refine Da 3 rfl (y_move rfl) ?_
 first | refine Da 4 rfl (y_ixD rfl rfl 1 rfl) ?_ | refine Da 4 rfl (y_ixP rfl rfl 1 rfl) ?_
 refine Da 5 rfl (y_fieldAddr' rfl) ?_
 refine Dt 6 [19] rfl (y_lIF rfl) ?_
 refine Da 7 rfl (y_move rfl) ?_
 first | refine Da 8 rfl (y_ixD rfl rfl 1 rfl) ?_ | refine Da 8 rfl (y_ixP rfl rfl 1 rfl) ?_
 refine Dt 9 [19] rfl (y_lIS rfl) ?_
 refine Da 11 rfl (y_move rfl) ?_
 first | refine Da 12 rfl (y_ixD rfl rfl 2 rfl) ?_ | refine Da 12 rfl (y_ixP rfl rfl 2 rfl) ?_
 refine Da 13 rfl (y_fieldAddr' rfl) ?_
 refine Dt 14 [19] rfl (y_lIF rfl) ?_
 refine Da 15 rfl (y_move rfl) ?_
 first | refine Da 16 rfl (y_ixD rfl rfl 2 rfl) ?_ | refine Da 16 rfl (y_ixP rfl rfl 2 rfl) ?_
 refine Dt 17 [19] rfl (y_lIS rfl) ?_
 refine d_call 10 rfl (by kernel_rfl) rfl rfl .free rfl (g_l2Put _ (Nat.lt_succ_self _) (hf2.as 5 g.tree (by omega) rfl) hok2.2 f hok2.1.1.1.1.1 hra _) ?_
 rintro _ J2 _ e2 ⟨cs2, rfl, hr2, rfl⟩
 obtain ⟨o2, k2, _, rfl, -⟩ := hr2.open
 have hf := hf.mono e2
 have hf2 := hf2.mono e2
 have hle := hle.trans e2
 refine ⟨(.inr heldx), ?_⟩
 refine d_call 18 rfl (by kernel_rfl) rfl rfl .free rfl (g_l2Put _ (Nat.lt_succ_self _) hr2 (Ex.put_ok hok2.2 hok.1) y hok2.1.1.1.1.2 (hf.as 2 b.tree (by omega) rfl) _) ?_
 rintro _ J3 _ e3 ⟨cs3, rfl, hr3, rfl⟩
 obtain ⟨o3, k3, _, rfl, -⟩ := hr3.open
 have hle := hle.trans e3
 have e23 := e2.trans e3
 refine ⟨(.inr heldx), ?_⟩
 refine d_st 19 rfl (by kernel_rfl) rfl rfl rfl rfl rfl .free (.inl (by kernel_rfl)) ?_
 refine d_takeA 20 rfl (by kernel_rfl) rfl (.inl (by kernel_rfl)) (y_assign rfl) .free rfl ?_
 refine d_done (by kernel_rfl) ?_
 refine s_ret (.c rfl (.tmp rfl .nil)) ?_
 refine ⟨_, L, hle, drops, ((g.put f (.fn f y s t g)).put y b).tree, _, rfl, hr3, fun e' he' => ?_, rfl⟩
 obtain rfl := Option.some.inj he'
 rfl
set_option maxHeartbeats 1000000 in
theorem gturn_pair {a b : Ex} {I : Heap} {cs : List Value} (h : Rep I (Ex.bin .pair a b).tree cs) (hok : (Ex.bin .pair a b).ok = true) (L : Own) :
  Fun Tryz.prog 71 [.agg cs.toArray] I L (SP (Ex.bin .pair a b).turn L) := by
 obtain ⟨oa, c, oaf, cf, rfl, hf⟩ := h.at'
 have hlen : (Ex.bin .pair a b).tree.parts.length = 3 := rfl
 obtain ⟨xa, rfl⟩ : ∃ xa, oa = some xa := ⟨_, some_oad hf.nil (show 0 < 3 by decide)⟩
 have hhd : ((Ex.bin .pair a b).tree.pt 0).atom = [112, 97, 105, 114] := rfl
 have hle : HLe I I := .refl _
 have hok0 := hok
 simp only [Ex.ok, Bool.and_eq_true, decide_eq_true_eq] at hok
 refine fun_intro (by simp) ?_
 refine Se rfl ?_
 refine o_box rfl rfl .free rfl ?_
 intro b1
 refine o_alloc .free rfl ?_
 intro b2
 refine Oa rfl (o_done (Se rfl (Oh rfl ?_)))
 refine o_lO1 rfl .free rfl ?_
 first | refine o_ixD rfl rfl 0 rfl .free rfl ?_ | refine o_ixP rfl rfl 0 rfl .free rfl ?_
 refine o_fieldAddr' rfl .free rfl ?_
 refine o_lIF rfl .free rfl ?_
 refine o_put (t := 15) (v' := .string (str [112, 97, 105, 114])) rfl rfl ?_
 refine Oa rfl (o_done (Se rfl (Oh rfl ?_)))
 refine o_lO1 rfl .free rfl ?_
 refine Oa rfl (o_done (Se rfl (Om rfl ?_)))
 first | refine o_ixD rfl rfl 1 rfl .free rfl ?_ | refine o_ixP rfl rfl 1 rfl .free rfl ?_
 refine o_fieldAddr' rfl .free rfl ?_
 refine o_lIF rfl .free rfl ?_
 refine o_call rfl .free rfl (g_l2Number ((Ex.bin .pair a b).tree.pt 1).atom (hf.rp 1 (show 1 < 3 by decide)).atom_le _ _) ?_
 rintro _ _ _ _ ⟨rfl, rfl, rfl⟩
 refine Om rfl (Oe rfl rfl (Oe rfl rfl (Oa rfl (Oa rfl (o_done (Se rfl (Om rfl (Om rfl (On rfl ?_)))))))))
 refine Or rfl rfl rfl ?_
 refine o_put (t := 30) (v' := .int .i64 ((2 : Nat))) rfl (by rfl) ?_
 first | refine o_ixD rfl rfl _ rfl .free rfl ?_ | refine o_ixP rfl rfl _ rfl .free rfl ?_
 refine o_fieldAddr' rfl .free rfl ?_
 refine o_lIF rfl .free rfl ?_
 refine o_call rfl .free rfl (g_l2Number ((Ex.bin .pair a b).tree.pt 2).atom (hf.rp 2 (show 2 < 3 by decide)).atom_le _ _) ?_
 rintro _ _ _ _ ⟨rfl, rfl, rfl⟩
 refine Om rfl (Oe rfl rfl (Oe rfl rfl (Oa rfl (Oa rfl (o_done (s_seq (Se rfl (Om rfl (o_done (s_block (s_seq (Se rfl (Od rfl rfl rfl (Oa rfl (o_done ?_)))))))))))))))
 first | refine s_fp rfl (by decide) ?_ | refine s_fn rfl (by decide) ?_ | refine s_false (by simp [look, opd, *]) ?_
 refine Se rfl (Od rfl rfl rfl (Oa rfl (o_done ?_)))
 first | refine s_fp rfl (by decide) ?_ | refine s_fn rfl (by decide) ?_ | refine s_false (by simp [look, opd, *]) ?_
 refine o_enter rfl (Od rfl rfl rfl (Oa rfl (o_done ?_)))
 first | refine s_fp rfl (by decide) ?_ | refine s_fn rfl (by decide) ?_ | refine s_false (by simp [look, opd, *]) ?_
 refine Se rfl (Od rfl rfl rfl (Oa rfl (o_done ?_)))
 first | refine s_fp rfl (by decide) ?_ | refine s_fn rfl (by decide) ?_ | refine s_false (by simp [look, opd, *]) ?_
 refine Se rfl (Od rfl rfl rfl (Oa rfl (o_done ?_)))
 first | refine s_fp rfl (by decide) ?_ | refine s_fn rfl (by decide) ?_ | refine s_false (by simp [look, opd, *]) ?_
 refine Se rfl (Od rfl rfl rfl (Oa rfl (o_done ?_)))
 first | refine s_fp rfl (by decide) ?_ | refine s_fn rfl (by decide) ?_ | refine s_false (by simp [look, opd, *]) ?_
 refine s_seq (Se rfl (Od rfl rfl rfl (Oa rfl (o_done ?_))))
 first | refine s_fp rfl (by decide) ?_ | refine s_fn rfl (by decide) ?_ | refine s_false (by simp [look, opd, *]) ?_
 refine o_enter rfl (Od rfl rfl rfl (Oa rfl (o_done ?_)))
 first | refine s_fp rfl (by decide) ?_ | refine s_fn rfl (by decide) ?_ | refine s_false (by simp [look, opd, *]) ?_
 refine s_skip (s_inBlock (Se rfl ?_))
 refine o_lOS rfl .free rfl ?_
 refine o_st rfl rfl rfl rfl .free ?_
 refine Oa rfl (o_done ?_)
 refine s_ret (.c rfl (.tmp rfl .nil)) ?_
 have hno : (Ex.bin .pair a b).turn = none := by
  first
   | rfl
   | (cases a <;> first | rfl | (cases b <;> rfl))
 exact ⟨_, L, hle, drops, SP.same hf.rep hno⟩
set_option maxHeartbeats 1000000 in
theorem gturn_ite {a b d : Ex} {I : Heap} {cs : List Value} (h : Rep I (Ex.ite a b d).tree cs) (hok : (Ex.ite a b d).ok = true) (L : Own) :
  Fun Tryz.prog 71 [.agg cs.toArray] I L (SP (Ex.ite a b d).turn L) := by
 obtain ⟨oa, c, oaf, cf, rfl, hf⟩ := h.at'
 have hlen : (Ex.ite a b d).tree.parts.length = 4 := rfl
 obtain ⟨xa, rfl⟩ : ∃ xa, oa = some xa := ⟨_, some_oad hf.nil (show 0 < 4 by decide)⟩
 have hhd : ((Ex.ite a b d).tree.pt 0).atom = [105, 102] := rfl
 have hle : HLe I I := .refl _
 have hok0 := hok
 simp only [Ex.ok, Bool.and_eq_true, decide_eq_true_eq] at hok
 refine fun_intro (by simp) ?_
 refine Se rfl ?_
 refine o_box rfl rfl .free rfl ?_
 intro b1
 refine o_alloc .free rfl ?_
 intro b2
 refine Oa rfl (o_done (Se rfl (Oh rfl ?_)))
 refine o_lO1 rfl .free rfl ?_
 first | refine o_ixD rfl rfl 0 rfl .free rfl ?_ | refine o_ixP rfl rfl 0 rfl .free rfl ?_
 refine o_fieldAddr' rfl .free rfl ?_
 refine o_lIF rfl .free rfl ?_
 refine o_put (t := 15) (v' := .string (str [105, 102])) rfl rfl ?_
 refine Oa rfl (o_done (Se rfl (Oh rfl ?_)))
 refine o_lO1 rfl .free rfl ?_
 refine Oa rfl (o_done (Se rfl (Om rfl ?_)))
 first | refine o_ixD rfl rfl 1 rfl .free rfl ?_ | refine o_ixP rfl rfl 1 rfl .free rfl ?_
 refine o_fieldAddr' rfl .free rfl ?_
 refine o_lIF rfl .free rfl ?_
 refine o_call rfl .free rfl (g_l2Number ((Ex.ite a b d).tree.pt 1).atom (hf.rp 1 (show 1 < 4 by decide)).atom_le _ _) ?_
 rintro _ _ _ _ ⟨rfl, rfl, rfl⟩
 refine Om rfl (Oe rfl rfl (Oe rfl rfl (Oa rfl (Oa rfl (o_done (Se rfl (Om rfl (Om rfl (On rfl ?_)))))))))
 refine Or rfl rfl rfl ?_
 refine o_put (t := 30) (v' := .int .i64 ((3 : Nat))) rfl (by rfl) ?_
 first | refine o_ixD rfl rfl _ rfl .free rfl ?_ | refine o_ixP rfl rfl _ rfl .free rfl ?_
 refine o_fieldAddr' rfl .free rfl ?_
 refine o_lIF rfl .free rfl ?_
 refine o_call rfl .free rfl (g_l2Number ((Ex.ite a b d).tree.pt 3).atom (hf.rp 3 (show 3 < 4 by decide)).atom_le _ _) ?_
 rintro _ _ _ _ ⟨rfl, rfl, rfl⟩
 refine Om rfl (Oe rfl rfl (Oe rfl rfl (Oa rfl (Oa rfl (o_done (s_seq (Se rfl (Om rfl (o_done (s_block (s_seq (Se rfl (Od rfl rfl rfl (Oa rfl (o_done ?_)))))))))))))))
 first | refine s_fp rfl (by decide) ?_ | refine s_fn rfl (by decide) ?_ | refine s_false (by simp [look, opd, *]) ?_
 refine Se rfl (Od rfl rfl rfl (Oa rfl (o_done ?_)))
 first | refine s_fp rfl (by decide) ?_ | refine s_fn rfl (by decide) ?_ | refine s_false (by simp [look, opd, *]) ?_
 refine o_enter rfl (Od rfl rfl rfl (Oa rfl (o_done ?_)))
 first | refine s_fp rfl (by decide) ?_ | refine s_fn rfl (by decide) ?_ | refine s_false (by simp [look, opd, *]) ?_
 refine Se rfl (Od rfl rfl rfl (Oa rfl (o_done ?_)))
 first | refine s_tp rfl (rfl) ?_ | refine s_tn rfl (rfl) ?_ | refine s_true (by simp [look, opd, *]) ?_
 refine s_seq ?_
 refine d_all 11 rfl rfl ?_
 refine Da 0 rfl (y_move rfl) ?_
 refine Da 1 rfl (y_move rfl) ?_
 first | refine Da 2 rfl (y_ixD rfl rfl 2 rfl) ?_ | refine Da 2 rfl (y_ixP rfl rfl 2 rfl) ?_
 refine Dt 3 [9] rfl (y_lIS rfl) ?_
 refine Da 4 rfl (y_move rfl) ?_
 first | refine Da 5 rfl (y_ixD rfl rfl 3 rfl) ?_ | refine Da 5 rfl (y_ixP rfl rfl 3 rfl) ?_
 refine Dt 6 [9] rfl (y_lIS rfl) ?_
 refine Da 8 rfl (y_move rfl) ?_
 refine d_call 7 rfl (by kernel_rfl) rfl rfl .free rfl (g_l4Pick (nvT a.tree.atom) (hf.as 2 b.tree (by omega) rfl) (hf.as 3 d.tree (by omega) rfl) _) ?_
 rintro _ J1 _ e1 ⟨ds, rfl, hr, rfl⟩
 obtain ⟨o1, k1, _, rfl, -⟩ := hr.open
 refine ⟨(.inr heldx), ?_⟩
 refine d_st 9 rfl (by kernel_rfl) rfl rfl rfl rfl rfl .free (.inl (by kernel_rfl)) ?_
 refine d_takeA 10 rfl (by kernel_rfl) rfl (.inl (by kernel_rfl)) (y_assign rfl) .free rfl ?_
 refine d_done (by kernel_rfl) ?_
 refine s_ret (.c rfl (.tmp rfl .nil)) ?_
 refine ⟨_, L, hle.trans e1, drops, (if nvT a.tree.atom = 0 then b.tree else d.tree), _, ?_, hr, fun e' he' => ?_, rfl⟩
 ·have hi : (Ex.ite a b d).turn.isSome = isNum a.tree.atom := by
   cases ha : isNum a.tree.atom with
   | true => obtain ⟨p, rfl⟩ := val_num ha hok.1.1; rfl
   | false =>
    cases hty : (Ex.ite a b d).turn with
    | none => rfl
    | some e' =>
     obtain ⟨p, rfl, _⟩ := turn_ite hty
     rw [show isNum (Ex.num p).tree.atom = true from hok.1.1] at ha; cases ha
  rw [hi]; rfl
 ·obtain ⟨p, rfl, rfl⟩ := turn_ite he'
  have hp : isNum p = true := hok.1.1
  have h1 : nvT (Ex.num p).tree.atom = numVal p := nvT_num hp
  rw [h1]
  by_cases hz : p = [48]
  ·rw [if_pos hz, if_pos ((numVal_zero hp).2 hz)]
  ·rw [if_neg hz, if_neg (fun h => hz ((numVal_zero hp).1 h))]
set_option maxHeartbeats 1000000 in
theorem gturn_lt {z : Txt} {a b : Ex} {I : Heap} {cs : List Value} (h : Rep I (Ex.lt z a b).tree cs) (hok : (Ex.lt z a b).ok = true) (L : Own) :
  Fun Tryz.prog 71 [.agg cs.toArray] I L (SP (Ex.lt z a b).turn L) := by
 obtain ⟨oa, c, oaf, cf, rfl, hf⟩ := h.at'
 have hlen : (Ex.lt z a b).tree.parts.length = 4 := rfl
 obtain ⟨xa, rfl⟩ : ∃ xa, oa = some xa := ⟨_, some_oad hf.nil (show 0 < 4 by decide)⟩
 have hhd : ((Ex.lt z a b).tree.pt 0).atom = [108, 101, 116] := rfl
 have hle : HLe I I := .refl _
 have hok0 := hok
 simp only [Ex.ok, Bool.and_eq_true, decide_eq_true_eq] at hok
 refine fun_intro (by simp) ?_
 refine Se rfl ?_
 refine o_box rfl rfl .free rfl ?_
 intro b1
 refine o_alloc .free rfl ?_
 intro b2
 refine Oa rfl (o_done (Se rfl (Oh rfl ?_)))
 refine o_lO1 rfl .free rfl ?_
 first | refine o_ixD rfl rfl 0 rfl .free rfl ?_ | refine o_ixP rfl rfl 0 rfl .free rfl ?_
 refine o_fieldAddr' rfl .free rfl ?_
 refine o_lIF rfl .free rfl ?_
 refine o_put (t := 15) (v' := .string (str [108, 101, 116])) rfl rfl ?_
 refine Oa rfl (o_done (Se rfl (Oh rfl ?_)))
 refine o_lO1 rfl .free rfl ?_
 refine Oa rfl (o_done (Se rfl (Om rfl ?_)))
 first | refine o_ixD rfl rfl 1 rfl .free rfl ?_ | refine o_ixP rfl rfl 1 rfl .free rfl ?_
 refine o_fieldAddr' rfl .free rfl ?_
 refine o_lIF rfl .free rfl ?_
 refine o_call rfl .free rfl (g_l2Number ((Ex.lt z a b).tree.pt 1).atom (hf.rp 1 (show 1 < 4 by decide)).atom_le _ _) ?_
 rintro _ _ _ _ ⟨rfl, rfl, rfl⟩
 refine Om rfl (Oe rfl rfl (Oe rfl rfl (Oa rfl (Oa rfl (o_done (Se rfl (Om rfl (Om rfl (On rfl ?_)))))))))
 refine Or rfl rfl rfl ?_
 refine o_put (t := 30) (v' := .int .i64 ((3 : Nat))) rfl (by rfl) ?_
 first | refine o_ixD rfl rfl _ rfl .free rfl ?_ | refine o_ixP rfl rfl _ rfl .free rfl ?_
 refine o_fieldAddr' rfl .free rfl ?_
 refine o_lIF rfl .free rfl ?_
 refine o_call rfl .free rfl (g_l2Number ((Ex.lt z a b).tree.pt 3).atom (hf.rp 3 (show 3 < 4 by decide)).atom_le _ _) ?_
 rintro _ _ _ _ ⟨rfl, rfl, rfl⟩
 refine Om rfl (Oe rfl rfl (Oe rfl rfl (Oa rfl (Oa rfl (o_done (s_seq (Se rfl (Om rfl (o_done (s_block (s_seq (Se rfl (Od rfl rfl rfl (Oa rfl (o_done ?_)))))))))))))))
 first | refine s_fp rfl (by decide) ?_ | refine s_fn rfl (by decide) ?_ | refine s_false (by simp [look, opd, *]) ?_
 refine Se rfl (Od rfl rfl rfl (Oa rfl (o_done ?_)))
 first | refine s_fp rfl (by decide) ?_ | refine s_fn rfl (by decide) ?_ | refine s_false (by simp [look, opd, *]) ?_
 refine o_enter rfl (Od rfl rfl rfl (Oa rfl (o_done ?_)))
 first | refine s_fp rfl (by decide) ?_ | refine s_fn rfl (by decide) ?_ | refine s_false (by simp [look, opd, *]) ?_
 refine Se rfl (Od rfl rfl rfl (Oa rfl (o_done ?_)))
 first | refine s_fp rfl (by decide) ?_ | refine s_fn rfl (by decide) ?_ | refine s_false (by simp [look, opd, *]) ?_
 refine Se rfl (Od rfl rfl rfl (Oa rfl (o_done ?_)))
 first | refine s_tp rfl (rfl) ?_ | refine s_tn rfl (rfl) ?_ | refine s_true (by simp [look, opd, *]) ?_
 refine s_seq ?_
 refine d_all 13 rfl rfl ?_
 refine Da 0 rfl (y_move rfl) ?_
 first | refine Da 1 rfl (y_ixD rfl rfl 3 rfl) ?_ | refine Da 1 rfl (y_ixP rfl rfl 3 rfl) ?_
 refine Dt 2 [11] rfl (y_lIS rfl) ?_
 refine Da 3 rfl (y_move rfl) ?_
 first | refine Da 4 rfl (y_ixD rfl rfl 1 rfl) ?_ | refine Da 4 rfl (y_ixP rfl rfl 1 rfl) ?_
 refine Da 5 rfl (y_fieldAddr' rfl) ?_
 refine Dt 6 [11] rfl (y_lIF rfl) ?_
 refine Da 7 rfl (y_move rfl) ?_
 first | refine Da 8 rfl (y_ixD rfl rfl 2 rfl) ?_ | refine Da 8 rfl (y_ixP rfl rfl 2 rfl) ?_
 refine Dt 9 [11] rfl (y_lIS rfl) ?_
 refine d_call 10 rfl (by kernel_rfl) rfl rfl .free rfl (g_l2Put _ (Nat.lt_succ_self _) (hf.as 3 b.tree (by omega) rfl) hok.2 z hok.1.1 (hf.as 2 a.tree (by omega) rfl) _) ?_
 rintro _ J2 _ e2 ⟨cs2, rfl, hr2, rfl⟩
 obtain ⟨o2, k2, _, rfl, -⟩ := hr2.open
 have hle := hle.trans e2
 refine ⟨(.inr heldx), ?_⟩
 refine d_st 11 rfl (by kernel_rfl) rfl rfl rfl rfl rfl .free (.inl (by kernel_rfl)) ?_
 refine d_takeA 12 rfl (by kernel_rfl) rfl (.inl (by kernel_rfl)) (y_assign rfl) .free rfl ?_
 refine d_done (by kernel_rfl) ?_
 refine s_ret (.c rfl (.tmp rfl .nil)) ?_
 refine ⟨_, L, hle, drops, (b.put z a).tree, _, rfl, hr2, fun e' he' => ?_, rfl⟩
 obtain rfl := Option.some.inj he'
 rfl
set_option maxHeartbeats 1000000 in
theorem gturn_fn {g z : Txt} {s t : Ty} {b : Ex} {I : Heap} {cs : List Value} (h : Rep I (Ex.fn g z s t b).tree cs) (hok : (Ex.fn g z s t b).ok = true) (L : Own) :
  Fun Tryz.prog 71 [.agg cs.toArray] I L (SP (Ex.fn g z s t b).turn L) := by
 obtain ⟨oa, c, oaf, cf, rfl, hf⟩ := h.at'
 have hlen : (Ex.fn g z s t b).tree.parts.length = 6 := rfl
 obtain ⟨xa, rfl⟩ : ∃ xa, oa = some xa := ⟨_, some_oad hf.nil (show 0 < 6 by decide)⟩
 have hhd : ((Ex.fn g z s t b).tree.pt 0).atom = [102, 117, 110] := rfl
 have hle : HLe I I := .refl _
 have hok0 := hok
 simp only [Ex.ok, Bool.and_eq_true, decide_eq_true_eq] at hok
 refine fun_intro (by simp) ?_
 refine Se rfl ?_
 refine o_box rfl rfl .free rfl ?_
 intro b1
 refine o_alloc .free rfl ?_
 intro b2
 refine Oa rfl (o_done (Se rfl (Oh rfl ?_)))
 refine o_lO1 rfl .free rfl ?_
 first | refine o_ixD rfl rfl 0 rfl .free rfl ?_ | refine o_ixP rfl rfl 0 rfl .free rfl ?_
 refine o_fieldAddr' rfl .free rfl ?_
 refine o_lIF rfl .free rfl ?_
 refine o_put (t := 15) (v' := .string (str [102, 117, 110])) rfl rfl ?_
 refine Oa rfl (o_done (Se rfl (Oh rfl ?_)))
 refine o_lO1 rfl .free rfl ?_
 refine Oa rfl (o_done (Se rfl (Om rfl ?_)))
 first | refine o_ixD rfl rfl 1 rfl .free rfl ?_ | refine o_ixP rfl rfl 1 rfl .free rfl ?_
 refine o_fieldAddr' rfl .free rfl ?_
 refine o_lIF rfl .free rfl ?_
 refine o_call rfl .free rfl (g_l2Number ((Ex.fn g z s t b).tree.pt 1).atom (hf.rp 1 (show 1 < 6 by decide)).atom_le _ _) ?_
 rintro _ _ _ _ ⟨rfl, rfl, rfl⟩
 refine Om rfl (Oe rfl rfl (Oe rfl rfl (Oa rfl (Oa rfl (o_done (Se rfl (Om rfl (Om rfl (On rfl ?_)))))))))
 refine Or rfl rfl rfl ?_
 refine o_put (t := 30) (v' := .int .i64 ((5 : Nat))) rfl (by rfl) ?_
 first | refine o_ixD rfl rfl _ rfl .free rfl ?_ | refine o_ixP rfl rfl _ rfl .free rfl ?_
 refine o_fieldAddr' rfl .free rfl ?_
 refine o_lIF rfl .free rfl ?_
 refine o_call rfl .free rfl (g_l2Number ((Ex.fn g z s t b).tree.pt 5).atom (hf.rp 5 (show 5 < 6 by decide)).atom_le _ _) ?_
 rintro _ _ _ _ ⟨rfl, rfl, rfl⟩
 refine Om rfl (Oe rfl rfl (Oe rfl rfl (Oa rfl (Oa rfl (o_done (s_seq (Se rfl (Om rfl (o_done (s_block (s_seq (Se rfl (Od rfl rfl rfl (Oa rfl (o_done ?_)))))))))))))))
 first | refine s_fp rfl (by decide) ?_ | refine s_fn rfl (by decide) ?_ | refine s_false (by simp [look, opd, *]) ?_
 refine Se rfl (Od rfl rfl rfl (Oa rfl (o_done ?_)))
 first | refine s_fp rfl (by decide) ?_ | refine s_fn rfl (by decide) ?_ | refine s_false (by simp [look, opd, *]) ?_
 refine o_enter rfl (Od rfl rfl rfl (Oa rfl (o_done ?_)))
 first | refine s_fp rfl (by decide) ?_ | refine s_fn rfl (by decide) ?_ | refine s_false (by simp [look, opd, *]) ?_
 refine Se rfl (Od rfl rfl rfl (Oa rfl (o_done ?_)))
 first | refine s_fp rfl (by decide) ?_ | refine s_fn rfl (by decide) ?_ | refine s_false (by simp [look, opd, *]) ?_
 refine Se rfl (Od rfl rfl rfl (Oa rfl (o_done ?_)))
 first | refine s_fp rfl (by decide) ?_ | refine s_fn rfl (by decide) ?_ | refine s_false (by simp [look, opd, *]) ?_
 refine Se rfl (Od rfl rfl rfl (Oa rfl (o_done ?_)))
 first | refine s_fp rfl (by decide) ?_ | refine s_fn rfl (by decide) ?_ | refine s_false (by simp [look, opd, *]) ?_
 refine s_seq (Se rfl (Od rfl rfl rfl (Oa rfl (o_done ?_))))
 first | refine s_fp rfl (by decide) ?_ | refine s_fn rfl (by decide) ?_ | refine s_false (by simp [look, opd, *]) ?_
 refine o_enter rfl (Od rfl rfl rfl (Oa rfl (o_done ?_)))
 first | refine s_fp rfl (by decide) ?_ | refine s_fn rfl (by decide) ?_ | refine s_false (by simp [look, opd, *]) ?_
 refine s_skip (s_inBlock (Se rfl ?_))
 refine o_lOS rfl .free rfl ?_
 refine o_st rfl rfl rfl rfl .free ?_
 refine Oa rfl (o_done ?_)
 refine s_ret (.c rfl (.tmp rfl .nil)) ?_
 have hno : (Ex.fn g z s t b).turn = none := by
  first
   | rfl
   | (cases a <;> first | rfl | (cases b <;> rfl))
 exact ⟨_, L, hle, drops, SP.same hf.rep hno⟩
set_option maxHeartbeats 1000000 in
theorem gturn_fst {a : Ex} {I : Heap} {cs : List Value} (h : Rep I (Ex.un .fst a).tree cs) (hok : (Ex.un .fst a).ok = true) (L : Own) :
  Fun Tryz.prog 71 [.agg cs.toArray] I L (SP (Ex.un .fst a).turn L) := by
 obtain ⟨oa, c, oaf, cf, rfl, hf⟩ := h.at'
 have hlen : (Ex.un .fst a).tree.parts.length = 2 := rfl
 obtain ⟨xa, rfl⟩ : ∃ xa, oa = some xa := ⟨_, some_oad hf.nil (show 0 < 2 by decide)⟩
 have hhd : ((Ex.un .fst a).tree.pt 0).atom = [102, 115, 116] := rfl
 have hle : HLe I I := .refl _
 have hok0 := hok
 simp only [Ex.ok, Bool.and_eq_true, decide_eq_true_eq] at hok
 refine fun_intro (by simp) ?_
 refine Se rfl ?_
 refine o_box rfl rfl .free rfl ?_
 intro b1
 refine o_alloc .free rfl ?_
 intro b2
 refine Oa rfl (o_done (Se rfl (Oh rfl ?_)))
 refine o_lO1 rfl .free rfl ?_
 first | refine o_ixD rfl rfl 0 rfl .free rfl ?_ | refine o_ixP rfl rfl 0 rfl .free rfl ?_
 refine o_fieldAddr' rfl .free rfl ?_
 refine o_lIF rfl .free rfl ?_
 refine o_put (t := 15) (v' := .string (str [102, 115, 116])) rfl rfl ?_
 refine Oa rfl (o_done (Se rfl (Oh rfl ?_)))
 refine o_lO1 rfl .free rfl ?_
 refine Oa rfl (o_done (Se rfl (Om rfl ?_)))
 first | refine o_ixD rfl rfl 1 rfl .free rfl ?_ | refine o_ixP rfl rfl 1 rfl .free rfl ?_
 refine o_fieldAddr' rfl .free rfl ?_
 refine o_lIF rfl .free rfl ?_
 refine o_call rfl .free rfl (g_l2Number ((Ex.un .fst a).tree.pt 1).atom (hf.rp 1 (show 1 < 2 by decide)).atom_le _ _) ?_
 rintro _ _ _ _ ⟨rfl, rfl, rfl⟩
 refine Om rfl (Oe rfl rfl (Oe rfl rfl (Oa rfl (Oa rfl (o_done (Se rfl (Om rfl (Om rfl (On rfl ?_)))))))))
 refine Or rfl rfl rfl ?_
 refine o_put (t := 30) (v' := .int .i64 ((1 : Nat))) rfl (by rfl) ?_
 first | refine o_ixD rfl rfl _ rfl .free rfl ?_ | refine o_ixP rfl rfl _ rfl .free rfl ?_
 refine o_fieldAddr' rfl .free rfl ?_
 refine o_lIF rfl .free rfl ?_
 refine o_call rfl .free rfl (g_l2Number ((Ex.un .fst a).tree.pt 1).atom (hf.rp 1 (show 1 < 2 by decide)).atom_le _ _) ?_
 rintro _ _ _ _ ⟨rfl, rfl, rfl⟩
 refine Om rfl (Oe rfl rfl (Oe rfl rfl (Oa rfl (Oa rfl (o_done (s_seq (Se rfl (Om rfl (o_done (s_block (s_seq (Se rfl (Od rfl rfl rfl (Oa rfl (o_done ?_)))))))))))))))
 first | refine s_fp rfl (by decide) ?_ | refine s_fn rfl (by decide) ?_ | refine s_false (by simp [look, opd, *]) ?_
 refine Se rfl (Od rfl rfl rfl (Oa rfl (o_done ?_)))
 first | refine s_fp rfl (by decide) ?_ | refine s_fn rfl (by decide) ?_ | refine s_false (by simp [look, opd, *]) ?_
 refine o_enter rfl (Od rfl rfl rfl (Oa rfl (o_done ?_)))
 first | refine s_fp rfl (by decide) ?_ | refine s_fn rfl (by decide) ?_ | refine s_false (by simp [look, opd, *]) ?_
 refine Se rfl (Od rfl rfl rfl (Oa rfl (o_done ?_)))
 first | refine s_fp rfl (by decide) ?_ | refine s_fn rfl (by decide) ?_ | refine s_false (by simp [look, opd, *]) ?_
 refine Se rfl (Od rfl rfl rfl (Oa rfl (o_done ?_)))
 first | refine s_fp rfl (by decide) ?_ | refine s_fn rfl (by decide) ?_ | refine s_false (by simp [look, opd, *]) ?_
 refine Se rfl (Od rfl rfl rfl (Oa rfl (o_done ?_)))
 first | refine s_fp rfl (by decide) ?_ | refine s_fn rfl (by decide) ?_ | refine s_false (by simp [look, opd, *]) ?_
 refine s_seq (Se rfl (Od rfl rfl rfl (Oa rfl (o_done ?_))))
 first | refine s_tp rfl (rfl) ?_ | refine s_tn rfl (rfl) ?_ | refine s_true (by simp [look, opd, *]) ?_
 refine s_skip ?_
 first | refine s_tp rfl (rfl) ?_ | refine s_tn rfl (rfl) ?_ | refine s_true (by simp [look, opd, *]) ?_
 refine s_seq (Se rfl (Om rfl ?_))
 first | refine o_ixD rfl rfl 1 rfl .free rfl ?_ | refine o_ixP rfl rfl 1 rfl .free rfl ?_
 refine o_lIS rfl .free rfl ?_
 refine o_call rfl .free rfl (g_l4Head (hf.as 1 a.tree (by omega) rfl) (Ex.tree_good (e := a) hok).1 _) ?_
 rintro _ _ _ _ ⟨rfl, rfl, rfl⟩
 refine Od rfl rfl rfl (o_done ?_)
 refine s_cond rfl ?_ ?_
 ·intro c9
  try simp only [nb] at c9
  have hno : (Ex.un .fst a).turn = none := by
   cases hty : (Ex.un .fst a).turn with
   | none => rfl
   | some e' =>
    obtain ⟨p, q, rfl, rfl⟩ := turn_un hty
    exact absurd rfl c9
  refine Se rfl ?_
  refine o_lOS rfl .free rfl ?_
  refine o_st rfl rfl rfl rfl .free ?_
  refine Oa rfl (o_done ?_)
  refine s_ret (.c rfl (.tmp rfl .nil)) ?_
  exact ⟨_, L, hle, drops, SP.same hf.rep hno⟩
 intro c9
 try simp only [nb] at c9
 obtain ⟨p, q, rfl⟩ := Ex.of_pair (show a.tree.head = tPair from c9)
 have hra := hf.as 1 (Ex.bin .pair p q).tree (by omega) rfl
 obtain ⟨oa2, c2, oaf2, cf2, he2, hf2⟩ := hra.at'
 simp only [List.cons.injEq, Value.slice.injEq, and_true, true_and] at he2
 obtain ⟨rfl, rfl⟩ := he2
 obtain ⟨xa2, hxa2⟩ : ∃ x, oaf 1 = some x := ⟨_, some_oad hf2.nil (show 0 < 3 by decide)⟩
 have hl2 : (Ex.bin .pair p q).tree.parts.length = 3 := rfl
 refine s_skip (s_seq (Se rfl (Om rfl (Od rfl rfl rfl (o_done ?_)))))
 first | refine s_tp rfl (rfl) ?_ | refine s_tn rfl (rfl) ?_ | refine s_true (by simp [look, opd, *]) ?_
 refine Se rfl (Om rfl ?_)
 first | refine o_ixD rfl rfl 1 rfl .free rfl ?_ | refine o_ixP rfl rfl 1 rfl .free rfl ?_
 refine o_fieldAddr' rfl .free rfl ?_
 refine o_lIF rfl .free rfl ?_
 first | refine o_ixD rfl rfl 1 rfl .free rfl ?_ | refine o_ixP rfl rfl 1 rfl .free rfl ?_
 refine o_lIS rfl .free rfl ?_
 refine o_st rfl rfl rfl rfl .free ?_
 refine Oa rfl (o_done ?_)
 refine s_ret (.c rfl (.tmp rfl .nil)) ?_
 refine ⟨_, L, hle, drops, p.tree, _, rfl, hf2.as 1 p.tree (by omega) rfl, fun e' he' => ?_, rfl⟩
 obtain rfl := Option.some.inj he'
 rfl
set_option maxHeartbeats 1000000 in
theorem gturn_snd {a : Ex} {I : Heap} {cs : List Value} (h : Rep I (Ex.un .snd a).tree cs) (hok : (Ex.un .snd a).ok = true) (L : Own) :
  Fun Tryz.prog 71 [.agg cs.toArray] I L (SP (Ex.un .snd a).turn L) := by
 obtain ⟨oa, c, oaf, cf, rfl, hf⟩ := h.at'
 have hlen : (Ex.un .snd a).tree.parts.length = 2 := rfl
 obtain ⟨xa, rfl⟩ : ∃ xa, oa = some xa := ⟨_, some_oad hf.nil (show 0 < 2 by decide)⟩
 have hhd : ((Ex.un .snd a).tree.pt 0).atom = [115, 110, 100] := rfl
 have hle : HLe I I := .refl _
 have hok0 := hok
 simp only [Ex.ok, Bool.and_eq_true, decide_eq_true_eq] at hok
 refine fun_intro (by simp) ?_
 refine Se rfl ?_
 refine o_box rfl rfl .free rfl ?_
 intro b1
 refine o_alloc .free rfl ?_
 intro b2
 refine Oa rfl (o_done (Se rfl (Oh rfl ?_)))
 refine o_lO1 rfl .free rfl ?_
 first | refine o_ixD rfl rfl 0 rfl .free rfl ?_ | refine o_ixP rfl rfl 0 rfl .free rfl ?_
 refine o_fieldAddr' rfl .free rfl ?_
 refine o_lIF rfl .free rfl ?_
 refine o_put (t := 15) (v' := .string (str [115, 110, 100])) rfl rfl ?_
 refine Oa rfl (o_done (Se rfl (Oh rfl ?_)))
 refine o_lO1 rfl .free rfl ?_
 refine Oa rfl (o_done (Se rfl (Om rfl ?_)))
 first | refine o_ixD rfl rfl 1 rfl .free rfl ?_ | refine o_ixP rfl rfl 1 rfl .free rfl ?_
 refine o_fieldAddr' rfl .free rfl ?_
 refine o_lIF rfl .free rfl ?_
 refine o_call rfl .free rfl (g_l2Number ((Ex.un .snd a).tree.pt 1).atom (hf.rp 1 (show 1 < 2 by decide)).atom_le _ _) ?_
 rintro _ _ _ _ ⟨rfl, rfl, rfl⟩
 refine Om rfl (Oe rfl rfl (Oe rfl rfl (Oa rfl (Oa rfl (o_done (Se rfl (Om rfl (Om rfl (On rfl ?_)))))))))
 refine Or rfl rfl rfl ?_
 refine o_put (t := 30) (v' := .int .i64 ((1 : Nat))) rfl (by rfl) ?_
 first | refine o_ixD rfl rfl _ rfl .free rfl ?_ | refine o_ixP rfl rfl _ rfl .free rfl ?_
 refine o_fieldAddr' rfl .free rfl ?_
 refine o_lIF rfl .free rfl ?_
 refine o_call rfl .free rfl (g_l2Number ((Ex.un .snd a).tree.pt 1).atom (hf.rp 1 (show 1 < 2 by decide)).atom_le _ _) ?_
 rintro _ _ _ _ ⟨rfl, rfl, rfl⟩
 refine Om rfl (Oe rfl rfl (Oe rfl rfl (Oa rfl (Oa rfl (o_done (s_seq (Se rfl (Om rfl (o_done (s_block (s_seq (Se rfl (Od rfl rfl rfl (Oa rfl (o_done ?_)))))))))))))))
 first | refine s_fp rfl (by decide) ?_ | refine s_fn rfl (by decide) ?_ | refine s_false (by simp [look, opd, *]) ?_
 refine Se rfl (Od rfl rfl rfl (Oa rfl (o_done ?_)))
 first | refine s_fp rfl (by decide) ?_ | refine s_fn rfl (by decide) ?_ | refine s_false (by simp [look, opd, *]) ?_
 refine o_enter rfl (Od rfl rfl rfl (Oa rfl (o_done ?_)))
 first | refine s_fp rfl (by decide) ?_ | refine s_fn rfl (by decide) ?_ | refine s_false (by simp [look, opd, *]) ?_
 refine Se rfl (Od rfl rfl rfl (Oa rfl (o_done ?_)))
 first | refine s_fp rfl (by decide) ?_ | refine s_fn rfl (by decide) ?_ | refine s_false (by simp [look, opd, *]) ?_
 refine Se rfl (Od rfl rfl rfl (Oa rfl (o_done ?_)))
 first | refine s_fp rfl (by decide) ?_ | refine s_fn rfl (by decide) ?_ | refine s_false (by simp [look, opd, *]) ?_
 refine Se rfl (Od rfl rfl rfl (Oa rfl (o_done ?_)))
 first | refine s_fp rfl (by decide) ?_ | refine s_fn rfl (by decide) ?_ | refine s_false (by simp [look, opd, *]) ?_
 refine s_seq (Se rfl (Od rfl rfl rfl (Oa rfl (o_done ?_))))
 first | refine s_fp rfl (by decide) ?_ | refine s_fn rfl (by decide) ?_ | refine s_false (by simp [look, opd, *]) ?_
 refine o_enter rfl (Od rfl rfl rfl (Oa rfl (o_done ?_)))
 first | refine s_tp rfl (rfl) ?_ | refine s_tn rfl (rfl) ?_ | refine s_true (by simp [look, opd, *]) ?_
 refine s_seq (Se rfl (Om rfl ?_))
 first | refine o_ixD rfl rfl 1 rfl .free rfl ?_ | refine o_ixP rfl rfl 1 rfl .free rfl ?_
 refine o_lIS rfl .free rfl ?_
 refine o_call rfl .free rfl (g_l4Head (hf.as 1 a.tree (by omega) rfl) (Ex.tree_good (e := a) hok).1 _) ?_
 rintro _ _ _ _ ⟨rfl, rfl, rfl⟩
 refine Od rfl rfl rfl (o_done ?_)
 refine s_cond rfl ?_ ?_
 ·intro c9
  try simp only [nb] at c9
  have hno : (Ex.un .snd a).turn = none := by
   cases hty : (Ex.un .snd a).turn with
   | none => rfl
   | some e' =>
    obtain ⟨p, q, rfl, rfl⟩ := turn_un hty
    exact absurd rfl c9
  refine Se rfl ?_
  refine o_lOS rfl .free rfl ?_
  refine o_st rfl rfl rfl rfl .free ?_
  refine Oa rfl (o_done ?_)
  refine s_ret (.c rfl (.tmp rfl .nil)) ?_
  exact ⟨_, L, hle, drops, SP.same hf.rep hno⟩
 intro c9
 try simp only [nb] at c9
 obtain ⟨p, q, rfl⟩ := Ex.of_pair (show a.tree.head = tPair from c9)
 have hra := hf.as 1 (Ex.bin .pair p q).tree (by omega) rfl
 obtain ⟨oa2, c2, oaf2, cf2, he2, hf2⟩ := hra.at'
 simp only [List.cons.injEq, Value.slice.injEq, and_true, true_and] at he2
 obtain ⟨rfl, rfl⟩ := he2
 obtain ⟨xa2, hxa2⟩ : ∃ x, oaf 1 = some x := ⟨_, some_oad hf2.nil (show 0 < 3 by decide)⟩
 have hl2 : (Ex.bin .pair p q).tree.parts.length = 3 := rfl
 refine s_skip (s_seq (Se rfl (Om rfl (Od rfl rfl rfl (o_done ?_)))))
 first | refine s_fp rfl (by decide) ?_ | refine s_fn rfl (by decide) ?_ | refine s_false (by simp [look, opd, *]) ?_
 refine s_skip (Se rfl (Om rfl ?_))
 first | refine o_ixD rfl rfl 1 rfl .free rfl ?_ | refine o_ixP rfl rfl 1 rfl .free rfl ?_
 refine o_fieldAddr' rfl .free rfl ?_
 refine o_lIF rfl .free rfl ?_
 first | refine o_ixD rfl rfl 2 rfl .free rfl ?_ | refine o_ixP rfl rfl 2 rfl .free rfl ?_
 refine o_lIS rfl .free rfl ?_
 refine o_st rfl rfl rfl rfl .free ?_
 refine Oa rfl (o_done ?_)
 refine s_ret (.c rfl (.tmp rfl .nil)) ?_
 refine ⟨_, L, hle, drops, q.tree, _, rfl, hf2.as 2 q.tree (by omega) rfl, fun e' he' => ?_, rfl⟩
 obtain rfl := Option.some.inj he'
 rfl
theorem gturn_bin {o : B5} {a b : Ex} {I : Heap} {cs : List Value} (h : Rep I (Ex.bin o a b).tree cs) (hok : (Ex.bin o a b).ok = true) (L : Own) :
  Fun Tryz.prog 71 [.agg cs.toArray] I L (SP (Ex.bin o a b).turn L) := by
 cases o with
 | add => exact gturn_add h hok L
 | sub => exact gturn_sub h hok L
 | mul => exact gturn_mul h hok L
 | call => exact gturn_call h hok L
 | pair => exact gturn_pair h hok L
theorem gturn_un {o : U2} {a : Ex} {I : Heap} {cs : List Value} (h : Rep I (Ex.un o a).tree cs) (hok : (Ex.un o a).ok = true) (L : Own) :
  Fun Tryz.prog 71 [.agg cs.toArray] I L (SP (Ex.un o a).turn L) := by
 cases o with
 | fst => exact gturn_fst h hok L
 | snd => exact gturn_snd h hok L
set_option maxHeartbeats 1000000 in
theorem gstep_bin {N : Nat} (ihn : StepG N) {o : B5} {a b : Ex} {I : Heap} {cs : List Value} (hlt : SizeOf.sizeOf (Ex.bin o a b) < N + 1) (h : Rep I (Ex.bin o a b).tree cs) (hok : (Ex.bin o a b).ok = true) (L : Own) :
  Fun Tryz.prog 37 [.agg cs.toArray] I L (SP (Ex.bin o a b).step L) := by
 obtain ⟨oa, c, oaf, cf, rfl, hf, hcl, hcs⟩ := h.cells
 have hpos : 0 < (Ex.bin o a b).tree.parts.length := by show 0 < 3; decide
 obtain ⟨xa, rfl⟩ : ∃ xa, oa = some xa := ⟨_, some_oad hf.nil hpos⟩
 have hlen : (Ex.bin o a b).tree.parts.length = 3 := rfl
 have hp := hf.len
 have hp2 := hp
 unfold maxN at hp2
 have hev : eag o.txt = [1, 2] := by cases o <;> rfl
 have hat : (Ex.bin o a b).tree.atom = [] := rfl
 simp only [Ex.bin.sizeOf_spec] at hlt
 have hok0 := hok
 simp only [Ex.ok, Bool.and_eq_true, decide_eq_true_eq] at hok
 refine fun_intro (by simp) ?_
 refine Se rfl ?_
 refine o_box rfl rfl .free rfl ?_
 intro b1
 refine o_alloc .free rfl ?_
 intro b2
 refine Oa rfl (o_done (s_seq (Se rfl (Oh rfl ?_))))
 refine o_lO1 rfl .free rfl ?_
 refine Od rfl rfl rfl (o_done ?_)
 first | refine s_fp rfl (by simp [hat]) ?_ | refine s_fn rfl (by simp [hat]) ?_ | refine s_false (by simp [look, opd, *]) ?_
 refine s_skip (Se rfl (Oh rfl ?_))
 refine o_lO1 rfl .free rfl ?_
 first | refine o_ixD rfl rfl 0 rfl .free rfl ?_ | refine o_ixP rfl rfl 0 rfl .free rfl ?_
 refine o_fieldAddr' rfl .free rfl ?_
 refine o_lIF rfl .free rfl ?_
 refine o_put (t := 17) (v' := .string (str o.txt)) rfl rfl ?_
 refine o_call rfl .free rfl (g_l4Eager o.txt _ _) ?_
 rintro _ J0 _ e0 ⟨ok, ck, rfl, hk, rfl⟩
 have hf := hf.mono e0
 have hle := e0
 rw [hev] at hk
 rw [hev]
 refine Oa rfl (o_done (s_seq (Se rfl (Oa rfl (o_done (s_block ?_))))))
 refine s_loop ?_
 refine s_seq (Se rfl (Om rfl (Om rfl (On rfl (Oc rfl rfl rfl (o_done ?_))))))
 refine s_condT rfl (by first | rfl | decide | (simp; done) | omega) ?_
 refine s_skip (s_seq (s_block (s_seq ?_)))
 refine d_all 10 rfl rfl ?_
 refine Da 0 rfl (y_fieldAddr rfl) ?_
 refine Dt 1 [10] rfl (y_lO1 rfl) ?_
 refine Da 2 rfl (y_move rfl) ?_
 refine Da 3 rfl (y_move rfl) ?_
 first | refine Da 4 rfl (y_ixD rfl rfl _ rfl) ?_ | refine Da 4 rfl (y_ixP rfl rfl _ rfl) ?_
 refine Dt 5 [10] rfl (y_lI1 rfl) ?_
 first | refine Da 6 rfl (y_ixD rfl rfl _ rfl) ?_ | refine Da 6 rfl (y_ixP rfl rfl _ rfl) ?_
 refine Dt 7 [10] rfl (y_lIS rfl) ?_
 refine d_call 8 rfl (by kernel_rfl) rfl rfl .free rfl (g_l4Is _ (Nat.lt_succ_self _) (hf.as 1 a.tree (by omega) rfl) hok.1 _) ?_
 rintro _ _ _ _ ⟨rfl, rfl, rfl⟩
 refine ⟨(.inr heldx), ?_⟩
 refine Da 9 rfl (y_not rfl) ?_
 refine d_done (by kernel_rfl) ?_
 refine s_cond rfl ?_ ?_
 ·intro c2
  try simp only [nb] at c2
  have hva : a.value = false := by simpa using c2
  have hst : (Ex.bin o a b).step = a.step.map fun q => .bin o q b := by simp only [Ex.step, hva, if_true]
  refine s_seq ?_
  refine d_all 15 rfl rfl ?_
  refine Da 0 rfl (y_fieldAddr rfl) ?_
  refine Dt 1 [13] rfl (y_lO1 rfl) ?_
  refine Da 2 rfl (y_move rfl) ?_
  refine Da 3 rfl (y_move rfl) ?_
  first | refine Da 4 rfl (y_ixD rfl rfl _ rfl) ?_ | refine Da 4 rfl (y_ixP rfl rfl _ rfl) ?_
  refine Dt 5 [13] rfl (y_lI1 rfl) ?_
  first | refine Da 6 rfl (y_ixD rfl rfl _ rfl) ?_ | refine Da 6 rfl (y_ixP rfl rfl _ rfl) ?_
  refine Dt 7 [13] rfl (y_lIS rfl) ?_
  refine d_two 8 12 (by kernel_rfl) ?_ ?_
  ·skip
   refine i_call 8 rfl rfl rfl .free rfl (ihn (by omega) (hf.as 1 a.tree (by omega) rfl) hok.1 _) ?_
   rintro _ J1 _ e1 ⟨t1, cs1, rfl, hr, hte, rfl⟩
   obtain ⟨o1, k1, _, rfl, -⟩ := hr.open
   have hf := hf.mono e1
   have hle := hle.trans e1
   have hk := hk.mono e1
   refine ⟨(.inr heldx), ?_⟩
   refine Da 9 rfl (y_move rfl) ?_
   refine Da 10 rfl (y_extract rfl rfl) ?_
   refine Da 11 rfl (y_extract rfl rfl) ?_
   refine d_alloc 12 rfl (by kernel_rfl) rfl .free rfl (.inr heldx) ?_
   intro b6
   refine d_st 13 rfl (by kernel_rfl) rfl rfl rfl rfl rfl .free (.inl (by kernel_rfl)) ?_
   refine d_takeA 14 rfl (by kernel_rfl) rfl (.inl (by kernel_rfl)) (y_assign rfl) .free rfl ?_
   refine d_done (by kernel_rfl) ?_
   refine Se rfl ?_
   refine o_lits0 .free rfl ?_
   intro b47
   refine Oh rfl ?_
   refine o_lO1 rfl .free rfl ?_
   refine o_append (B := some (b47, [])) (xs := []) (ys := cellsF oaf cf 0 (Ex.bin o a b).tree.parts) (m := 0) (c := 0) (by intro kk; simp) (by rfl) rfl rfl ⟨rfl, Nat.le_refl _, rfl⟩ (fun _ h => h) (by have := hcl.length; omega) (fun a ha => by cases ha; exact ((hcs _ rfl).mono hle).reads) (by simp) hcl.plain hpos (by decide) (by omega) (by decide) .free rfl ?_
   intro bc sp cc hB'
   have hcc : (Ex.bin o a b).tree.parts.length ≤ cc := by have := hB'.2.1; omega
   refine o_put (t := 50) (v' := .slice (some ⟨bc, 0, none⟩) (Ex.bin o a b).tree.parts.length cc) rfl (by rw [Nat.zero_add]) ?_
   simp only [List.nil_append]
   simp only [show (Ex.bin o a b).tree.parts = [.node o.txt [], a.tree, b.tree] from rfl, cellsF, List.cons_append, List.nil_append]
   refine o_struct rfl rfl rfl .free rfl ?_
   refine o_alloc .free rfl ?_
   intro b8
   refine o_st rfl rfl rfl rfl .free ?_
   refine o_done (s_seq ?_)
   refine d_all 9 rfl rfl ?_
   refine Da 0 rfl (y_fieldAddr rfl) ?_
   refine Dt 1 [8] rfl (y_lO1 rfl) ?_
   refine Da 2 rfl (y_move rfl) ?_
   refine Da 3 rfl (y_move rfl) ?_
   first | refine Da 4 rfl (y_ixD rfl rfl _ rfl) ?_ | refine Da 4 rfl (y_ixP rfl rfl _ rfl) ?_
   refine Dt 5 [8] rfl (y_lI1 rfl) ?_
   refine Dt 6 [8] rfl (y_lOS rfl) ?_
   first | refine Da 7 rfl (y_ixD rfl rfl _ rfl) ?_ | refine Da 7 rfl (y_ixP rfl rfl _ rfl) ?_
   refine d_st 8 rfl (by kernel_rfl) rfl rfl rfl rfl rfl .free (.inl (by kernel_rfl)) ?_
   refine d_done (by kernel_rfl) ?_
   refine Se rfl ?_
   refine o_lOS rfl .free rfl ?_
   refine Om rfl ?_
   refine o_st rfl rfl rfl rfl .free ?_
   refine Oa rfl (o_done ?_)
   refine s_mem (fun w h => h.f1) (s_freeze ?_)
   intro hz
   have hf := hf.mono hz
   refine s_ret (.c rfl (.tmp rfl .nil)) ?_
   refine ⟨_, L, hle.trans hz, drops, .node [] [.node o.txt [], t1, b.tree], [.string (str []), .slice (some ⟨bc, 0, none⟩) (Ex.bin o a b).tree.parts.length cc], ?_, .mk' rfl (.cons (hf.as 0 (.node o.txt []) (by omega) rfl) (.cons (hr.mono hz) (.cons (hf.as 2 (b.tree) (by omega) rfl) (.nil)))) (fun y hy => by cases hy; exact still_set (xs := [_, _, _, _, _, _])) (by simp) hcc (by simp [maxN]) hp, ?_, rfl⟩
   ·rw [step_none_map hst]; rfl
   ·intro e' he'
    rw [hst] at he'
    obtain ⟨q, hq, rfl⟩ := Option.map_eq_some_iff.1 he'
    rw [hte q hq]; rfl
  ·skip
   refine i_alloc 12 rfl rfl .free rfl (.inr heldx) ?_
   intro b6
   refine d_call 8 rfl (by kernel_rfl) rfl rfl .free rfl (ihn (by omega) (hf.as 1 a.tree (by omega) rfl) hok.1 _) ?_
   rintro _ J1 _ e1 ⟨t1, cs1, rfl, hr, hte, rfl⟩
   obtain ⟨o1, k1, _, rfl, -⟩ := hr.open
   have hf := hf.mono e1
   have hle := hle.trans e1
   have hk := hk.mono e1
   refine ⟨(.inr heldx), ?_⟩
   refine Da 9 rfl (y_move rfl) ?_
   refine Da 10 rfl (y_extract rfl rfl) ?_
   refine Da 11 rfl (y_extract rfl rfl) ?_
   refine d_st 13 rfl (by kernel_rfl) rfl rfl rfl rfl rfl .free (.inl (by kernel_rfl)) ?_
   refine d_takeA 14 rfl (by kernel_rfl) rfl (.inl (by kernel_rfl)) (y_assign rfl) .free rfl ?_
   refine d_done (by kernel_rfl) ?_
   refine Se rfl ?_
   refine o_lits0 .free rfl ?_
   intro b47
   refine Oh rfl ?_
   refine o_lO1 rfl .free rfl ?_
   refine o_append (B := some (b47, [])) (xs := []) (ys := cellsF oaf cf 0 (Ex.bin o a b).tree.parts) (m := 0) (c := 0) (by intro kk; simp) (by rfl) rfl rfl ⟨rfl, Nat.le_refl _, rfl⟩ (fun _ h => h) (by have := hcl.length; omega) (fun a ha => by cases ha; exact ((hcs _ rfl).mono hle).reads) (by simp) hcl.plain hpos (by decide) (by omega) (by decide) .free rfl ?_
   intro bc sp cc hB'
   have hcc : (Ex.bin o a b).tree.parts.length ≤ cc := by have := hB'.2.1; omega
   refine o_put (t := 50) (v' := .slice (some ⟨bc, 0, none⟩) (Ex.bin o a b).tree.parts.length cc) rfl (by rw [Nat.zero_add]) ?_
   simp only [List.nil_append]
   simp only [show (Ex.bin o a b).tree.parts = [.node o.txt [], a.tree, b.tree] from rfl, cellsF, List.cons_append, List.nil_append]
   refine o_struct rfl rfl rfl .free rfl ?_
   refine o_alloc .free rfl ?_
   intro b8
   refine o_st rfl rfl rfl rfl .free ?_
   refine o_done (s_seq ?_)
   refine d_all 9 rfl rfl ?_
   refine Da 0 rfl (y_fieldAddr rfl) ?_
   refine Dt 1 [8] rfl (y_lO1 rfl) ?_
   refine Da 2 rfl (y_move rfl) ?_
   refine Da 3 rfl (y_move rfl) ?_
   first | refine Da 4 rfl (y_ixD rfl rfl _ rfl) ?_ | refine Da 4 rfl (y_ixP rfl rfl _ rfl) ?_
   refine Dt 5 [8] rfl (y_lI1 rfl) ?_
   refine Dt 6 [8] rfl (y_lOS rfl) ?_
   first | refine Da 7 rfl (y_ixD rfl rfl _ rfl) ?_ | refine Da 7 rfl (y_ixP rfl rfl _ rfl) ?_
   refine d_st 8 rfl (by kernel_rfl) rfl rfl rfl rfl rfl .free (.inl (by kernel_rfl)) ?_
   refine d_done (by kernel_rfl) ?_
   refine Se rfl ?_
   refine o_lOS rfl .free rfl ?_
   refine Om rfl ?_
   refine o_st rfl rfl rfl rfl .free ?_
   refine Oa rfl (o_done ?_)
   refine s_mem (fun w h => h.f1) (s_freeze ?_)
   intro hz
   have hf := hf.mono hz
   refine s_ret (.c rfl (.tmp rfl .nil)) ?_
   refine ⟨_, L, hle.trans hz, drops, .node [] [.node o.txt [], t1, b.tree], [.string (str []), .slice (some ⟨bc, 0, none⟩) (Ex.bin o a b).tree.parts.length cc], ?_, .mk' rfl (.cons (hf.as 0 (.node o.txt []) (by omega) rfl) (.cons (hr.mono hz) (.cons (hf.as 2 (b.tree) (by omega) rfl) (.nil)))) (fun y hy => by cases hy; exact still_set (xs := [_, _, _, _, _, _])) (by simp) hcc (by simp [maxN]) hp, ?_, rfl⟩
   ·rw [step_none_map hst]; rfl
   ·intro e' he'
    rw [hst] at he'
    obtain ⟨q, hq, rfl⟩ := Option.map_eq_some_iff.1 he'
    rw [hte q hq]; rfl
 intro c2
 try simp only [nb] at c2
 have hva : a.value = true := by simpa using c2
 refine s_skip (s_inBlock (o_enter rfl (Om rfl ?_)))
 refine Or rfl rfl rfl ?_
 refine Oa rfl (o_done ?_)
 refine s_round ?_
 refine s_seq (Se rfl (Om rfl (Om rfl (On rfl (Oc rfl rfl rfl (o_done ?_))))))
 refine s_condT rfl (by first | rfl | decide | (simp; done) | omega) ?_
 refine s_skip (s_seq (s_block (s_seq ?_)))
 refine d_all 10 rfl rfl ?_
 refine Da 0 rfl (y_fieldAddr rfl) ?_
 refine Dt 1 [10] rfl (y_lO1 rfl) ?_
 refine Da 2 rfl (y_move rfl) ?_
 refine Da 3 rfl (y_move rfl) ?_
 first | refine Da 4 rfl (y_ixD rfl rfl _ rfl) ?_ | refine Da 4 rfl (y_ixP rfl rfl _ rfl) ?_
 refine Dt 5 [10] rfl (y_lI1 rfl) ?_
 first | refine Da 6 rfl (y_ixD rfl rfl _ rfl) ?_ | refine Da 6 rfl (y_ixP rfl rfl _ rfl) ?_
 refine Dt 7 [10] rfl (y_lIS rfl) ?_
 refine d_call 8 rfl (by kernel_rfl) rfl rfl .free rfl (g_l4Is _ (Nat.lt_succ_self _) (hf.as 2 b.tree (by omega) rfl) hok.2 _) ?_
 rintro _ _ _ _ ⟨rfl, rfl, rfl⟩
 refine ⟨(.inr heldx), ?_⟩
 refine Da 9 rfl (y_not rfl) ?_
 refine d_done (by kernel_rfl) ?_
 refine s_cond rfl ?_ ?_
 ·intro c2
  try simp only [nb] at c2
  have hvb : b.value = false := by simpa using c2
  have hst : (Ex.bin o a b).step = b.step.map fun q => .bin o a q := by simp only [Ex.step, hva, Bool.true_eq_false, if_false, hvb, if_true]
  refine s_seq ?_
  refine d_all 15 rfl rfl ?_
  refine Da 0 rfl (y_fieldAddr rfl) ?_
  refine Dt 1 [13] rfl (y_lO1 rfl) ?_
  refine Da 2 rfl (y_move rfl) ?_
  refine Da 3 rfl (y_move rfl) ?_
  first | refine Da 4 rfl (y_ixD rfl rfl _ rfl) ?_ | refine Da 4 rfl (y_ixP rfl rfl _ rfl) ?_
  refine Dt 5 [13] rfl (y_lI1 rfl) ?_
  first | refine Da 6 rfl (y_ixD rfl rfl _ rfl) ?_ | refine Da 6 rfl (y_ixP rfl rfl _ rfl) ?_
  refine Dt 7 [13] rfl (y_lIS rfl) ?_
  refine d_two 8 12 (by kernel_rfl) ?_ ?_
  ·skip
   refine i_call 8 rfl rfl rfl .free rfl (ihn (by omega) (hf.as 2 b.tree (by omega) rfl) hok.2 _) ?_
   rintro _ J1 _ e1 ⟨t1, cs1, rfl, hr, hte, rfl⟩
   obtain ⟨o1, k1, _, rfl, -⟩ := hr.open
   have hf := hf.mono e1
   have hle := hle.trans e1
   have hk := hk.mono e1
   refine ⟨(.inr heldx), ?_⟩
   refine Da 9 rfl (y_move rfl) ?_
   refine Da 10 rfl (y_extract rfl rfl) ?_
   refine Da 11 rfl (y_extract rfl rfl) ?_
   refine d_alloc 12 rfl (by kernel_rfl) rfl .free rfl (.inr heldx) ?_
   intro b6
   refine d_st 13 rfl (by kernel_rfl) rfl rfl rfl rfl rfl .free (.inl (by kernel_rfl)) ?_
   refine d_takeA 14 rfl (by kernel_rfl) rfl (.inl (by kernel_rfl)) (y_assign rfl) .free rfl ?_
   refine d_done (by kernel_rfl) ?_
   refine Se rfl ?_
   refine o_lits0 .free rfl ?_
   intro b47
   refine Oh rfl ?_
   refine o_lO1 rfl .free rfl ?_
   refine o_append (B := some (b47, [])) (xs := []) (ys := cellsF oaf cf 0 (Ex.bin o a b).tree.parts) (m := 0) (c := 0) (by intro kk; simp) (by rfl) rfl rfl ⟨rfl, Nat.le_refl _, rfl⟩ (fun _ h => h) (by have := hcl.length; omega) (fun a ha => by cases ha; exact ((hcs _ rfl).mono hle).reads) (by simp) hcl.plain hpos (by decide) (by omega) (by decide) .free rfl ?_
   intro bc sp cc hB'
   have hcc : (Ex.bin o a b).tree.parts.length ≤ cc := by have := hB'.2.1; omega
   refine o_put (t := 50) (v' := .slice (some ⟨bc, 0, none⟩) (Ex.bin o a b).tree.parts.length cc) rfl (by rw [Nat.zero_add]) ?_
   simp only [List.nil_append]
   simp only [show (Ex.bin o a b).tree.parts = [.node o.txt [], a.tree, b.tree] from rfl, cellsF, List.cons_append, List.nil_append]
   refine o_struct rfl rfl rfl .free rfl ?_
   refine o_alloc .free rfl ?_
   intro b8
   refine o_st rfl rfl rfl rfl .free ?_
   refine o_done (s_seq ?_)
   refine d_all 9 rfl rfl ?_
   refine Da 0 rfl (y_fieldAddr rfl) ?_
   refine Dt 1 [8] rfl (y_lO1 rfl) ?_
   refine Da 2 rfl (y_move rfl) ?_
   refine Da 3 rfl (y_move rfl) ?_
   first | refine Da 4 rfl (y_ixD rfl rfl _ rfl) ?_ | refine Da 4 rfl (y_ixP rfl rfl _ rfl) ?_
   refine Dt 5 [8] rfl (y_lI1 rfl) ?_
   refine Dt 6 [8] rfl (y_lOS rfl) ?_
   first | refine Da 7 rfl (y_ixD rfl rfl _ rfl) ?_ | refine Da 7 rfl (y_ixP rfl rfl _ rfl) ?_
   refine d_st 8 rfl (by kernel_rfl) rfl rfl rfl rfl rfl .free (.inl (by kernel_rfl)) ?_
   refine d_done (by kernel_rfl) ?_
   refine Se rfl ?_
   refine o_lOS rfl .free rfl ?_
   refine Om rfl ?_
   refine o_st rfl rfl rfl rfl .free ?_
   refine Oa rfl (o_done ?_)
   refine s_mem (fun w h => h.f1) (s_freeze ?_)
   intro hz
   have hf := hf.mono hz
   refine s_ret (.c rfl (.tmp rfl .nil)) ?_
   refine ⟨_, L, hle.trans hz, drops, .node [] [.node o.txt [], a.tree, t1], [.string (str []), .slice (some ⟨bc, 0, none⟩) (Ex.bin o a b).tree.parts.length cc], ?_, .mk' rfl (.cons (hf.as 0 (.node o.txt []) (by omega) rfl) (.cons (hf.as 1 (a.tree) (by omega) rfl) (.cons (hr.mono hz) (.nil)))) (fun y hy => by cases hy; exact still_set (xs := [_, _, _, _, _, _])) (by simp) hcc (by simp [maxN]) hp, ?_, rfl⟩
   ·rw [step_none_map hst]; rfl
   ·intro e' he'
    rw [hst] at he'
    obtain ⟨q, hq, rfl⟩ := Option.map_eq_some_iff.1 he'
    rw [hte q hq]; rfl
  ·skip
   refine i_alloc 12 rfl rfl .free rfl (.inr heldx) ?_
   intro b6
   refine d_call 8 rfl (by kernel_rfl) rfl rfl .free rfl (ihn (by omega) (hf.as 2 b.tree (by omega) rfl) hok.2 _) ?_
   rintro _ J1 _ e1 ⟨t1, cs1, rfl, hr, hte, rfl⟩
   obtain ⟨o1, k1, _, rfl, -⟩ := hr.open
   have hf := hf.mono e1
   have hle := hle.trans e1
   have hk := hk.mono e1
   refine ⟨(.inr heldx), ?_⟩
   refine Da 9 rfl (y_move rfl) ?_
   refine Da 10 rfl (y_extract rfl rfl) ?_
   refine Da 11 rfl (y_extract rfl rfl) ?_
   refine d_st 13 rfl (by kernel_rfl) rfl rfl rfl rfl rfl .free (.inl (by kernel_rfl)) ?_
   refine d_takeA 14 rfl (by kernel_rfl) rfl (.inl (by kernel_rfl)) (y_assign rfl) .free rfl ?_
   refine d_done (by kernel_rfl) ?_
   refine Se rfl ?_
   refine o_lits0 .free rfl ?_
   intro b47
   refine Oh rfl ?_
   refine o_lO1 rfl .free rfl ?_
   refine o_append (B := some (b47, [])) (xs := []) (ys := cellsF oaf cf 0 (Ex.bin o a b).tree.parts) (m := 0) (c := 0) (by intro kk; simp) (by rfl) rfl rfl ⟨rfl, Nat.le_refl _, rfl⟩ (fun _ h => h) (by have := hcl.length; omega) (fun a ha => by cases ha; exact ((hcs _ rfl).mono hle).reads) (by simp) hcl.plain hpos (by decide) (by omega) (by decide) .free rfl ?_
   intro bc sp cc hB'
   have hcc : (Ex.bin o a b).tree.parts.length ≤ cc := by have := hB'.2.1; omega
   refine o_put (t := 50) (v' := .slice (some ⟨bc, 0, none⟩) (Ex.bin o a b).tree.parts.length cc) rfl (by rw [Nat.zero_add]) ?_
   simp only [List.nil_append]
   simp only [show (Ex.bin o a b).tree.parts = [.node o.txt [], a.tree, b.tree] from rfl, cellsF, List.cons_append, List.nil_append]
   refine o_struct rfl rfl rfl .free rfl ?_
   refine o_alloc .free rfl ?_
   intro b8
   refine o_st rfl rfl rfl rfl .free ?_
   refine o_done (s_seq ?_)
   refine d_all 9 rfl rfl ?_
   refine Da 0 rfl (y_fieldAddr rfl) ?_
   refine Dt 1 [8] rfl (y_lO1 rfl) ?_
   refine Da 2 rfl (y_move rfl) ?_
   refine Da 3 rfl (y_move rfl) ?_
   first | refine Da 4 rfl (y_ixD rfl rfl _ rfl) ?_ | refine Da 4 rfl (y_ixP rfl rfl _ rfl) ?_
   refine Dt 5 [8] rfl (y_lI1 rfl) ?_
   refine Dt 6 [8] rfl (y_lOS rfl) ?_
   first | refine Da 7 rfl (y_ixD rfl rfl _ rfl) ?_ | refine Da 7 rfl (y_ixP rfl rfl _ rfl) ?_
   refine d_st 8 rfl (by kernel_rfl) rfl rfl rfl rfl rfl .free (.inl (by kernel_rfl)) ?_
   refine d_done (by kernel_rfl) ?_
   refine Se rfl ?_
   refine o_lOS rfl .free rfl ?_
   refine Om rfl ?_
   refine o_st rfl rfl rfl rfl .free ?_
   refine Oa rfl (o_done ?_)
   refine s_mem (fun w h => h.f1) (s_freeze ?_)
   intro hz
   have hf := hf.mono hz
   refine s_ret (.c rfl (.tmp rfl .nil)) ?_
   refine ⟨_, L, hle.trans hz, drops, .node [] [.node o.txt [], a.tree, t1], [.string (str []), .slice (some ⟨bc, 0, none⟩) (Ex.bin o a b).tree.parts.length cc], ?_, .mk' rfl (.cons (hf.as 0 (.node o.txt []) (by omega) rfl) (.cons (hf.as 1 (a.tree) (by omega) rfl) (.cons (hr.mono hz) (.nil)))) (fun y hy => by cases hy; exact still_set (xs := [_, _, _, _, _, _])) (by simp) hcc (by simp [maxN]) hp, ?_, rfl⟩
   ·rw [step_none_map hst]; rfl
   ·intro e' he'
    rw [hst] at he'
    obtain ⟨q, hq, rfl⟩ := Option.map_eq_some_iff.1 he'
    rw [hte q hq]; rfl
 intro c2
 try simp only [nb] at c2
 have hvb : b.value = true := by simpa using c2
 refine s_skip (s_inBlock (o_enter rfl (Om rfl ?_)))
 refine Or rfl rfl rfl ?_
 refine Oa rfl (o_done ?_)
 refine s_round ?_
 refine s_seq (Se rfl (Om rfl (Om rfl (On rfl (Oc rfl rfl rfl (o_done ?_))))))
 refine s_condF rfl (by first | rfl | decide | (simp; done) | omega) ?_
 refine s_exit rfl ?_
 refine Se rfl ?_
 refine o_lOS rfl .free rfl ?_
 refine o_call rfl .free rfl (gturn_bin hf.rep hok0 _) ?_
 rintro _ J1 _ e1 ⟨t1, cs1, rfl, hr, hte, rfl⟩
 obtain ⟨o1, k1, _, rfl, -⟩ := hr.open
 have hle := hle.trans e1
 have hturn : (Ex.bin o a b).step = (Ex.bin o a b).turn := by simp only [Ex.step, hva, hvb, Bool.true_eq_false, if_false]
 refine Oe rfl rfl (Oe rfl rfl ?_)
 refine o_st rfl rfl rfl rfl .free ?_
 refine Oa rfl (o_done ?_)
 refine s_ret (.c rfl (.tmp rfl .nil)) ?_
 exact ⟨_, L, hle, drops, t1, _, by rw [hturn]; rfl, hr, by rw [hturn]; exact hte, rfl⟩
set_option maxHeartbeats 1000000 in
theorem gstep_ite {N : Nat} (ihn : StepG N) {a b d : Ex} {I : Heap} {cs : List Value} (hlt : SizeOf.sizeOf (Ex.ite a b d) < N + 1) (h : Rep I (Ex.ite a b d).tree cs) (hok : (Ex.ite a b d).ok = true) (L : Own) :
  Fun Tryz.prog 37 [.agg cs.toArray] I L (SP (Ex.ite a b d).step L) := by
 obtain ⟨oa, c, oaf, cf, rfl, hf, hcl, hcs⟩ := h.cells
 have hpos : 0 < (Ex.ite a b d).tree.parts.length := by show 0 < 4; decide
 obtain ⟨xa, rfl⟩ : ∃ xa, oa = some xa := ⟨_, some_oad hf.nil hpos⟩
 have hlen : (Ex.ite a b d).tree.parts.length = 4 := rfl
 have hp := hf.len
 have hp2 := hp
 unfold maxN at hp2
 have hev : eag [105, 102] = [1] := rfl
 have hat : (Ex.ite a b d).tree.atom = [] := rfl
 simp only [Ex.ite.sizeOf_spec] at hlt
 have hok0 := hok
 simp only [Ex.ok, Bool.and_eq_true, decide_eq_true_eq] at hok
 refine fun_intro (by simp) ?_
 refine Se rfl ?_
 refine o_box rfl rfl .free rfl ?_
 intro b1
 refine o_alloc .free rfl ?_
 intro b2
 refine Oa rfl (o_done (s_seq (Se rfl (Oh rfl ?_))))
 refine o_lO1 rfl .free rfl ?_
 refine Od rfl rfl rfl (o_done ?_)
 first | refine s_fp rfl (by simp [hat]) ?_ | refine s_fn rfl (by simp [hat]) ?_ | refine s_false (by simp [look, opd, *]) ?_
 refine s_skip (Se rfl (Oh rfl ?_))
 refine o_lO1 rfl .free rfl ?_
 first | refine o_ixD rfl rfl 0 rfl .free rfl ?_ | refine o_ixP rfl rfl 0 rfl .free rfl ?_
 refine o_fieldAddr' rfl .free rfl ?_
 refine o_lIF rfl .free rfl ?_
 refine o_put (t := 17) (v' := .string (str [105, 102])) rfl rfl ?_
 refine o_call rfl .free rfl (g_l4Eager [105, 102] _ _) ?_
 rintro _ J0 _ e0 ⟨ok, ck, rfl, hk, rfl⟩
 have hf := hf.mono e0
 have hle := e0
 rw [hev] at hk
 rw [hev]
 refine Oa rfl (o_done (s_seq (Se rfl (Oa rfl (o_done (s_block ?_))))))
 refine s_loop ?_
 refine s_seq (Se rfl (Om rfl (Om rfl (On rfl (Oc rfl rfl rfl (o_done ?_))))))
 refine s_condT rfl (by first | rfl | decide | (simp; done) | omega) ?_
 refine s_skip (s_seq (s_block (s_seq ?_)))
 refine d_all 10 rfl rfl ?_
 refine Da 0 rfl (y_fieldAddr rfl) ?_
 refine Dt 1 [10] rfl (y_lO1 rfl) ?_
 refine Da 2 rfl (y_move rfl) ?_
 refine Da 3 rfl (y_move rfl) ?_
 first | refine Da 4 rfl (y_ixD rfl rfl _ rfl) ?_ | refine Da 4 rfl (y_ixP rfl rfl _ rfl) ?_
 refine Dt 5 [10] rfl (y_lI1 rfl) ?_
 first | refine Da 6 rfl (y_ixD rfl rfl _ rfl) ?_ | refine Da 6 rfl (y_ixP rfl rfl _ rfl) ?_
 refine Dt 7 [10] rfl (y_lIS rfl) ?_
 refine d_call 8 rfl (by kernel_rfl) rfl rfl .free rfl (g_l4Is _ (Nat.lt_succ_self _) (hf.as 1 a.tree (by omega) rfl) hok.1.1 _) ?_
 rintro _ _ _ _ ⟨rfl, rfl, rfl⟩
 refine ⟨(.inr heldx), ?_⟩
 refine Da 9 rfl (y_not rfl) ?_
 refine d_done (by kernel_rfl) ?_
 refine s_cond rfl ?_ ?_
 ·intro c2
  try simp only [nb] at c2
  have hva : a.value = false := by simpa using c2
  have hst : (Ex.ite a b d).step = a.step.map fun q => .ite q b d := by simp only [Ex.step, hva, if_true]
  refine s_seq ?_
  refine d_all 15 rfl rfl ?_
  refine Da 0 rfl (y_fieldAddr rfl) ?_
  refine Dt 1 [13] rfl (y_lO1 rfl) ?_
  refine Da 2 rfl (y_move rfl) ?_
  refine Da 3 rfl (y_move rfl) ?_
  first | refine Da 4 rfl (y_ixD rfl rfl _ rfl) ?_ | refine Da 4 rfl (y_ixP rfl rfl _ rfl) ?_
  refine Dt 5 [13] rfl (y_lI1 rfl) ?_
  first | refine Da 6 rfl (y_ixD rfl rfl _ rfl) ?_ | refine Da 6 rfl (y_ixP rfl rfl _ rfl) ?_
  refine Dt 7 [13] rfl (y_lIS rfl) ?_
  refine d_two 8 12 (by kernel_rfl) ?_ ?_
  ·skip
   refine i_call 8 rfl rfl rfl .free rfl (ihn (by omega) (hf.as 1 a.tree (by omega) rfl) hok.1.1 _) ?_
   rintro _ J1 _ e1 ⟨t1, cs1, rfl, hr, hte, rfl⟩
   obtain ⟨o1, k1, _, rfl, -⟩ := hr.open
   have hf := hf.mono e1
   have hle := hle.trans e1
   have hk := hk.mono e1
   refine ⟨(.inr heldx), ?_⟩
   refine Da 9 rfl (y_move rfl) ?_
   refine Da 10 rfl (y_extract rfl rfl) ?_
   refine Da 11 rfl (y_extract rfl rfl) ?_
   refine d_alloc 12 rfl (by kernel_rfl) rfl .free rfl (.inr heldx) ?_
   intro b6
   refine d_st 13 rfl (by kernel_rfl) rfl rfl rfl rfl rfl .free (.inl (by kernel_rfl)) ?_
   refine d_takeA 14 rfl (by kernel_rfl) rfl (.inl (by kernel_rfl)) (y_assign rfl) .free rfl ?_
   refine d_done (by kernel_rfl) ?_
   refine Se rfl ?_
   refine o_lits0 .free rfl ?_
   intro b47
   refine Oh rfl ?_
   refine o_lO1 rfl .free rfl ?_
   refine o_append (B := some (b47, [])) (xs := []) (ys := cellsF oaf cf 0 (Ex.ite a b d).tree.parts) (m := 0) (c := 0) (by intro kk; simp) (by rfl) rfl rfl ⟨rfl, Nat.le_refl _, rfl⟩ (fun _ h => h) (by have := hcl.length; omega) (fun a ha => by cases ha; exact ((hcs _ rfl).mono hle).reads) (by simp) hcl.plain hpos (by decide) (by omega) (by decide) .free rfl ?_
   intro bc sp cc hB'
   have hcc : (Ex.ite a b d).tree.parts.length ≤ cc := by have := hB'.2.1; omega
   refine o_put (t := 50) (v' := .slice (some ⟨bc, 0, none⟩) (Ex.ite a b d).tree.parts.length cc) rfl (by rw [Nat.zero_add]) ?_
   simp only [List.nil_append]
   simp only [show (Ex.ite a b d).tree.parts = [.node tIf [], a.tree, b.tree, d.tree] from rfl, cellsF, List.cons_append, List.nil_append]
   refine o_struct rfl rfl rfl .free rfl ?_
   refine o_alloc .free rfl ?_
   intro b8
   refine o_st rfl rfl rfl rfl .free ?_
   refine o_done (s_seq ?_)
   refine d_all 9 rfl rfl ?_
   refine Da 0 rfl (y_fieldAddr rfl) ?_
   refine Dt 1 [8] rfl (y_lO1 rfl) ?_
   refine Da 2 rfl (y_move rfl) ?_
   refine Da 3 rfl (y_move rfl) ?_
   first | refine Da 4 rfl (y_ixD rfl rfl _ rfl) ?_ | refine Da 4 rfl (y_ixP rfl rfl _ rfl) ?_
   refine Dt 5 [8] rfl (y_lI1 rfl) ?_
   refine Dt 6 [8] rfl (y_lOS rfl) ?_
   first | refine Da 7 rfl (y_ixD rfl rfl _ rfl) ?_ | refine Da 7 rfl (y_ixP rfl rfl _ rfl) ?_
   refine d_st 8 rfl (by kernel_rfl) rfl rfl rfl rfl rfl .free (.inl (by kernel_rfl)) ?_
   refine d_done (by kernel_rfl) ?_
   refine Se rfl ?_
   refine o_lOS rfl .free rfl ?_
   refine Om rfl ?_
   refine o_st rfl rfl rfl rfl .free ?_
   refine Oa rfl (o_done ?_)
   refine s_mem (fun w h => h.f1) (s_freeze ?_)
   intro hz
   have hf := hf.mono hz
   refine s_ret (.c rfl (.tmp rfl .nil)) ?_
   refine ⟨_, L, hle.trans hz, drops, .node [] [.node tIf [], t1, b.tree, d.tree], [.string (str []), .slice (some ⟨bc, 0, none⟩) (Ex.ite a b d).tree.parts.length cc], ?_, .mk' rfl (.cons (hf.as 0 (.node tIf []) (by omega) rfl) (.cons (hr.mono hz) (.cons (hf.as 2 (b.tree) (by omega) rfl) (.cons (hf.as 3 (d.tree) (by omega) rfl) (.nil))))) (fun y hy => by cases hy; exact still_set (xs := [_, _, _, _, _, _, _, _])) (by simp) hcc (by simp [maxN]) hp, ?_, rfl⟩
   ·rw [step_none_map hst]; rfl
   ·intro e' he'
    rw [hst] at he'
    obtain ⟨q, hq, rfl⟩ := Option.map_eq_some_iff.1 he'
    rw [hte q hq]; rfl
  ·skip
   refine i_alloc 12 rfl rfl .free rfl (.inr heldx) ?_
   intro b6
   refine d_call 8 rfl (by kernel_rfl) rfl rfl .free rfl (ihn (by omega) (hf.as 1 a.tree (by omega) rfl) hok.1.1 _) ?_
   rintro _ J1 _ e1 ⟨t1, cs1, rfl, hr, hte, rfl⟩
   obtain ⟨o1, k1, _, rfl, -⟩ := hr.open
   have hf := hf.mono e1
   have hle := hle.trans e1
   have hk := hk.mono e1
   refine ⟨(.inr heldx), ?_⟩
   refine Da 9 rfl (y_move rfl) ?_
   refine Da 10 rfl (y_extract rfl rfl) ?_
   refine Da 11 rfl (y_extract rfl rfl) ?_
   refine d_st 13 rfl (by kernel_rfl) rfl rfl rfl rfl rfl .free (.inl (by kernel_rfl)) ?_
   refine d_takeA 14 rfl (by kernel_rfl) rfl (.inl (by kernel_rfl)) (y_assign rfl) .free rfl ?_
   refine d_done (by kernel_rfl) ?_
   refine Se rfl ?_
   refine o_lits0 .free rfl ?_
   intro b47
   refine Oh rfl ?_
   refine o_lO1 rfl .free rfl ?_
   refine o_append (B := some (b47, [])) (xs := []) (ys := cellsF oaf cf 0 (Ex.ite a b d).tree.parts) (m := 0) (c := 0) (by intro kk; simp) (by rfl) rfl rfl ⟨rfl, Nat.le_refl _, rfl⟩ (fun _ h => h) (by have := hcl.length; omega) (fun a ha => by cases ha; exact ((hcs _ rfl).mono hle).reads) (by simp) hcl.plain hpos (by decide) (by omega) (by decide) .free rfl ?_
   intro bc sp cc hB'
   have hcc : (Ex.ite a b d).tree.parts.length ≤ cc := by have := hB'.2.1; omega
   refine o_put (t := 50) (v' := .slice (some ⟨bc, 0, none⟩) (Ex.ite a b d).tree.parts.length cc) rfl (by rw [Nat.zero_add]) ?_
   simp only [List.nil_append]
   simp only [show (Ex.ite a b d).tree.parts = [.node tIf [], a.tree, b.tree, d.tree] from rfl, cellsF, List.cons_append, List.nil_append]
   refine o_struct rfl rfl rfl .free rfl ?_
   refine o_alloc .free rfl ?_
   intro b8
   refine o_st rfl rfl rfl rfl .free ?_
   refine o_done (s_seq ?_)
   refine d_all 9 rfl rfl ?_
   refine Da 0 rfl (y_fieldAddr rfl) ?_
   refine Dt 1 [8] rfl (y_lO1 rfl) ?_
   refine Da 2 rfl (y_move rfl) ?_
   refine Da 3 rfl (y_move rfl) ?_
   first | refine Da 4 rfl (y_ixD rfl rfl _ rfl) ?_ | refine Da 4 rfl (y_ixP rfl rfl _ rfl) ?_
   refine Dt 5 [8] rfl (y_lI1 rfl) ?_
   refine Dt 6 [8] rfl (y_lOS rfl) ?_
   first | refine Da 7 rfl (y_ixD rfl rfl _ rfl) ?_ | refine Da 7 rfl (y_ixP rfl rfl _ rfl) ?_
   refine d_st 8 rfl (by kernel_rfl) rfl rfl rfl rfl rfl .free (.inl (by kernel_rfl)) ?_
   refine d_done (by kernel_rfl) ?_
   refine Se rfl ?_
   refine o_lOS rfl .free rfl ?_
   refine Om rfl ?_
   refine o_st rfl rfl rfl rfl .free ?_
   refine Oa rfl (o_done ?_)
   refine s_mem (fun w h => h.f1) (s_freeze ?_)
   intro hz
   have hf := hf.mono hz
   refine s_ret (.c rfl (.tmp rfl .nil)) ?_
   refine ⟨_, L, hle.trans hz, drops, .node [] [.node tIf [], t1, b.tree, d.tree], [.string (str []), .slice (some ⟨bc, 0, none⟩) (Ex.ite a b d).tree.parts.length cc], ?_, .mk' rfl (.cons (hf.as 0 (.node tIf []) (by omega) rfl) (.cons (hr.mono hz) (.cons (hf.as 2 (b.tree) (by omega) rfl) (.cons (hf.as 3 (d.tree) (by omega) rfl) (.nil))))) (fun y hy => by cases hy; exact still_set (xs := [_, _, _, _, _, _, _, _])) (by simp) hcc (by simp [maxN]) hp, ?_, rfl⟩
   ·rw [step_none_map hst]; rfl
   ·intro e' he'
    rw [hst] at he'
    obtain ⟨q, hq, rfl⟩ := Option.map_eq_some_iff.1 he'
    rw [hte q hq]; rfl
 intro c2
 try simp only [nb] at c2
 have hva : a.value = true := by simpa using c2
 refine s_skip (s_inBlock (o_enter rfl (Om rfl ?_)))
 refine Or rfl rfl rfl ?_
 refine Oa rfl (o_done ?_)
 refine s_round ?_
 refine s_seq (Se rfl (Om rfl (Om rfl (On rfl (Oc rfl rfl rfl (o_done ?_))))))
 refine s_condF rfl (by first | rfl | decide | (simp; done) | omega) ?_
 refine s_exit rfl ?_
 refine Se rfl ?_
 refine o_lOS rfl .free rfl ?_
 refine o_call rfl .free rfl (gturn_ite hf.rep hok0 _) ?_
 rintro _ J1 _ e1 ⟨t1, cs1, rfl, hr, hte, rfl⟩
 obtain ⟨o1, k1, _, rfl, -⟩ := hr.open
 have hle := hle.trans e1
 have hturn : (Ex.ite a b d).step = (Ex.ite a b d).turn := by simp only [Ex.step, hva, Bool.true_eq_false, if_false]
 refine Oe rfl rfl (Oe rfl rfl ?_)
 refine o_st rfl rfl rfl rfl .free ?_
 refine Oa rfl (o_done ?_)
 refine s_ret (.c rfl (.tmp rfl .nil)) ?_
 exact ⟨_, L, hle, drops, t1, _, by rw [hturn]; rfl, hr, by rw [hturn]; exact hte, rfl⟩
set_option maxHeartbeats 1000000 in
theorem gstep_lt {N : Nat} (ihn : StepG N) {z : Txt} {a b : Ex} {I : Heap} {cs : List Value} (hlt : SizeOf.sizeOf (Ex.lt z a b) < N + 1) (h : Rep I (Ex.lt z a b).tree cs) (hok : (Ex.lt z a b).ok = true) (L : Own) :
  Fun Tryz.prog 37 [.agg cs.toArray] I L (SP (Ex.lt z a b).step L) := by
 obtain ⟨oa, c, oaf, cf, rfl, hf, hcl, hcs⟩ := h.cells
 have hpos : 0 < (Ex.lt z a b).tree.parts.length := by show 0 < 4; decide
 obtain ⟨xa, rfl⟩ : ∃ xa, oa = some xa := ⟨_, some_oad hf.nil hpos⟩
 have hlen : (Ex.lt z a b).tree.parts.length = 4 := rfl
 have hp := hf.len
 have hp2 := hp
 unfold maxN at hp2
 have hev : eag [108, 101, 116] = [2] := rfl
 have hat : (Ex.lt z a b).tree.atom = [] := rfl
 simp only [Ex.lt.sizeOf_spec] at hlt
 have hok0 := hok
 simp only [Ex.ok, Bool.and_eq_true, decide_eq_true_eq] at hok
 refine fun_intro (by simp) ?_
 refine Se rfl ?_
 refine o_box rfl rfl .free rfl ?_
 intro b1
 refine o_alloc .free rfl ?_
 intro b2
 refine Oa rfl (o_done (s_seq (Se rfl (Oh rfl ?_))))
 refine o_lO1 rfl .free rfl ?_
 refine Od rfl rfl rfl (o_done ?_)
 first | refine s_fp rfl (by simp [hat]) ?_ | refine s_fn rfl (by simp [hat]) ?_ | refine s_false (by simp [look, opd, *]) ?_
 refine s_skip (Se rfl (Oh rfl ?_))
 refine o_lO1 rfl .free rfl ?_
 first | refine o_ixD rfl rfl 0 rfl .free rfl ?_ | refine o_ixP rfl rfl 0 rfl .free rfl ?_
 refine o_fieldAddr' rfl .free rfl ?_
 refine o_lIF rfl .free rfl ?_
 refine o_put (t := 17) (v' := .string (str [108, 101, 116])) rfl rfl ?_
 refine o_call rfl .free rfl (g_l4Eager [108, 101, 116] _ _) ?_
 rintro _ J0 _ e0 ⟨ok, ck, rfl, hk, rfl⟩
 have hf := hf.mono e0
 have hle := e0
 rw [hev] at hk
 rw [hev]
 refine Oa rfl (o_done (s_seq (Se rfl (Oa rfl (o_done (s_block ?_))))))
 refine s_loop ?_
 refine s_seq (Se rfl (Om rfl (Om rfl (On rfl (Oc rfl rfl rfl (o_done ?_))))))
 refine s_condT rfl (by first | rfl | decide | (simp; done) | omega) ?_
 refine s_skip (s_seq (s_block (s_seq ?_)))
 refine d_all 10 rfl rfl ?_
 refine Da 0 rfl (y_fieldAddr rfl) ?_
 refine Dt 1 [10] rfl (y_lO1 rfl) ?_
 refine Da 2 rfl (y_move rfl) ?_
 refine Da 3 rfl (y_move rfl) ?_
 first | refine Da 4 rfl (y_ixD rfl rfl _ rfl) ?_ | refine Da 4 rfl (y_ixP rfl rfl _ rfl) ?_
 refine Dt 5 [10] rfl (y_lI1 rfl) ?_
 first | refine Da 6 rfl (y_ixD rfl rfl _ rfl) ?_ | refine Da 6 rfl (y_ixP rfl rfl _ rfl) ?_
 refine Dt 7 [10] rfl (y_lIS rfl) ?_
 refine d_call 8 rfl (by kernel_rfl) rfl rfl .free rfl (g_l4Is _ (Nat.lt_succ_self _) (hf.as 2 a.tree (by omega) rfl) hok.1.2 _) ?_
 rintro _ _ _ _ ⟨rfl, rfl, rfl⟩
 refine ⟨(.inr heldx), ?_⟩
 refine Da 9 rfl (y_not rfl) ?_
 refine d_done (by kernel_rfl) ?_
 refine s_cond rfl ?_ ?_
 ·intro c2
  try simp only [nb] at c2
  have hva : a.value = false := by simpa using c2
  have hst : (Ex.lt z a b).step = a.step.map fun q => .lt z q b := by simp only [Ex.step, hva, if_true]
  refine s_seq ?_
  refine d_all 15 rfl rfl ?_
  refine Da 0 rfl (y_fieldAddr rfl) ?_
  refine Dt 1 [13] rfl (y_lO1 rfl) ?_
  refine Da 2 rfl (y_move rfl) ?_
  refine Da 3 rfl (y_move rfl) ?_
  first | refine Da 4 rfl (y_ixD rfl rfl _ rfl) ?_ | refine Da 4 rfl (y_ixP rfl rfl _ rfl) ?_
  refine Dt 5 [13] rfl (y_lI1 rfl) ?_
  first | refine Da 6 rfl (y_ixD rfl rfl _ rfl) ?_ | refine Da 6 rfl (y_ixP rfl rfl _ rfl) ?_
  refine Dt 7 [13] rfl (y_lIS rfl) ?_
  refine d_two 8 12 (by kernel_rfl) ?_ ?_
  ·skip
   refine i_call 8 rfl rfl rfl .free rfl (ihn (by omega) (hf.as 2 a.tree (by omega) rfl) hok.1.2 _) ?_
   rintro _ J1 _ e1 ⟨t1, cs1, rfl, hr, hte, rfl⟩
   obtain ⟨o1, k1, _, rfl, -⟩ := hr.open
   have hf := hf.mono e1
   have hle := hle.trans e1
   have hk := hk.mono e1
   refine ⟨(.inr heldx), ?_⟩
   refine Da 9 rfl (y_move rfl) ?_
   refine Da 10 rfl (y_extract rfl rfl) ?_
   refine Da 11 rfl (y_extract rfl rfl) ?_
   refine d_alloc 12 rfl (by kernel_rfl) rfl .free rfl (.inr heldx) ?_
   intro b6
   refine d_st 13 rfl (by kernel_rfl) rfl rfl rfl rfl rfl .free (.inl (by kernel_rfl)) ?_
   refine d_takeA 14 rfl (by kernel_rfl) rfl (.inl (by kernel_rfl)) (y_assign rfl) .free rfl ?_
   refine d_done (by kernel_rfl) ?_
   refine Se rfl ?_
   refine o_lits0 .free rfl ?_
   intro b47
   refine Oh rfl ?_
   refine o_lO1 rfl .free rfl ?_
   refine o_append (B := some (b47, [])) (xs := []) (ys := cellsF oaf cf 0 (Ex.lt z a b).tree.parts) (m := 0) (c := 0) (by intro kk; simp) (by rfl) rfl rfl ⟨rfl, Nat.le_refl _, rfl⟩ (fun _ h => h) (by have := hcl.length; omega) (fun a ha => by cases ha; exact ((hcs _ rfl).mono hle).reads) (by simp) hcl.plain hpos (by decide) (by omega) (by decide) .free rfl ?_
   intro bc sp cc hB'
   have hcc : (Ex.lt z a b).tree.parts.length ≤ cc := by have := hB'.2.1; omega
   refine o_put (t := 50) (v' := .slice (some ⟨bc, 0, none⟩) (Ex.lt z a b).tree.parts.length cc) rfl (by rw [Nat.zero_add]) ?_
   simp only [List.nil_append]
   simp only [show (Ex.lt z a b).tree.parts = [.node tLet [], .node z [], a.tree, b.tree] from rfl, cellsF, List.cons_append, List.nil_append]
   refine o_struct rfl rfl rfl .free rfl ?_
   refine o_alloc .free rfl ?_
   intro b8
   refine o_st rfl rfl rfl rfl .free ?_
   refine o_done (s_seq ?_)
   refine d_all 9 rfl rfl ?_
   refine Da 0 rfl (y_fieldAddr rfl) ?_
   refine Dt 1 [8] rfl (y_lO1 rfl) ?_
   refine Da 2 rfl (y_move rfl) ?_
   refine Da 3 rfl (y_move rfl) ?_
   first | refine Da 4 rfl (y_ixD rfl rfl _ rfl) ?_ | refine Da 4 rfl (y_ixP rfl rfl _ rfl) ?_
   refine Dt 5 [8] rfl (y_lI1 rfl) ?_
   refine Dt 6 [8] rfl (y_lOS rfl) ?_
   first | refine Da 7 rfl (y_ixD rfl rfl _ rfl) ?_ | refine Da 7 rfl (y_ixP rfl rfl _ rfl) ?_
   refine d_st 8 rfl (by kernel_rfl) rfl rfl rfl rfl rfl .free (.inl (by kernel_rfl)) ?_
   refine d_done (by kernel_rfl) ?_
   refine Se rfl ?_
   refine o_lOS rfl .free rfl ?_
   refine Om rfl ?_
   refine o_st rfl rfl rfl rfl .free ?_
   refine Oa rfl (o_done ?_)
   refine s_mem (fun w h => h.f1) (s_freeze ?_)
   intro hz
   have hf := hf.mono hz
   refine s_ret (.c rfl (.tmp rfl .nil)) ?_
   refine ⟨_, L, hle.trans hz, drops, .node [] [.node tLet [], .node z [], t1, b.tree], [.string (str []), .slice (some ⟨bc, 0, none⟩) (Ex.lt z a b).tree.parts.length cc], ?_, .mk' rfl (.cons (hf.as 0 (.node tLet []) (by omega) rfl) (.cons (hf.as 1 (.node z []) (by omega) rfl) (.cons (hr.mono hz) (.cons (hf.as 3 (b.tree) (by omega) rfl) (.nil))))) (fun y hy => by cases hy; exact still_set (xs := [_, _, _, _, _, _, _, _])) (by simp) hcc (by simp [maxN]) hp, ?_, rfl⟩
   ·rw [step_none_map hst]; rfl
   ·intro e' he'
    rw [hst] at he'
    obtain ⟨q, hq, rfl⟩ := Option.map_eq_some_iff.1 he'
    rw [hte q hq]; rfl
  ·skip
   refine i_alloc 12 rfl rfl .free rfl (.inr heldx) ?_
   intro b6
   refine d_call 8 rfl (by kernel_rfl) rfl rfl .free rfl (ihn (by omega) (hf.as 2 a.tree (by omega) rfl) hok.1.2 _) ?_
   rintro _ J1 _ e1 ⟨t1, cs1, rfl, hr, hte, rfl⟩
   obtain ⟨o1, k1, _, rfl, -⟩ := hr.open
   have hf := hf.mono e1
   have hle := hle.trans e1
   have hk := hk.mono e1
   refine ⟨(.inr heldx), ?_⟩
   refine Da 9 rfl (y_move rfl) ?_
   refine Da 10 rfl (y_extract rfl rfl) ?_
   refine Da 11 rfl (y_extract rfl rfl) ?_
   refine d_st 13 rfl (by kernel_rfl) rfl rfl rfl rfl rfl .free (.inl (by kernel_rfl)) ?_
   refine d_takeA 14 rfl (by kernel_rfl) rfl (.inl (by kernel_rfl)) (y_assign rfl) .free rfl ?_
   refine d_done (by kernel_rfl) ?_
   refine Se rfl ?_
   refine o_lits0 .free rfl ?_
   intro b47
   refine Oh rfl ?_
   refine o_lO1 rfl .free rfl ?_
   refine o_append (B := some (b47, [])) (xs := []) (ys := cellsF oaf cf 0 (Ex.lt z a b).tree.parts) (m := 0) (c := 0) (by intro kk; simp) (by rfl) rfl rfl ⟨rfl, Nat.le_refl _, rfl⟩ (fun _ h => h) (by have := hcl.length; omega) (fun a ha => by cases ha; exact ((hcs _ rfl).mono hle).reads) (by simp) hcl.plain hpos (by decide) (by omega) (by decide) .free rfl ?_
   intro bc sp cc hB'
   have hcc : (Ex.lt z a b).tree.parts.length ≤ cc := by have := hB'.2.1; omega
   refine o_put (t := 50) (v' := .slice (some ⟨bc, 0, none⟩) (Ex.lt z a b).tree.parts.length cc) rfl (by rw [Nat.zero_add]) ?_
   simp only [List.nil_append]
   simp only [show (Ex.lt z a b).tree.parts = [.node tLet [], .node z [], a.tree, b.tree] from rfl, cellsF, List.cons_append, List.nil_append]
   refine o_struct rfl rfl rfl .free rfl ?_
   refine o_alloc .free rfl ?_
   intro b8
   refine o_st rfl rfl rfl rfl .free ?_
   refine o_done (s_seq ?_)
   refine d_all 9 rfl rfl ?_
   refine Da 0 rfl (y_fieldAddr rfl) ?_
   refine Dt 1 [8] rfl (y_lO1 rfl) ?_
   refine Da 2 rfl (y_move rfl) ?_
   refine Da 3 rfl (y_move rfl) ?_
   first | refine Da 4 rfl (y_ixD rfl rfl _ rfl) ?_ | refine Da 4 rfl (y_ixP rfl rfl _ rfl) ?_
   refine Dt 5 [8] rfl (y_lI1 rfl) ?_
   refine Dt 6 [8] rfl (y_lOS rfl) ?_
   first | refine Da 7 rfl (y_ixD rfl rfl _ rfl) ?_ | refine Da 7 rfl (y_ixP rfl rfl _ rfl) ?_
   refine d_st 8 rfl (by kernel_rfl) rfl rfl rfl rfl rfl .free (.inl (by kernel_rfl)) ?_
   refine d_done (by kernel_rfl) ?_
   refine Se rfl ?_
   refine o_lOS rfl .free rfl ?_
   refine Om rfl ?_
   refine o_st rfl rfl rfl rfl .free ?_
   refine Oa rfl (o_done ?_)
   refine s_mem (fun w h => h.f1) (s_freeze ?_)
   intro hz
   have hf := hf.mono hz
   refine s_ret (.c rfl (.tmp rfl .nil)) ?_
   refine ⟨_, L, hle.trans hz, drops, .node [] [.node tLet [], .node z [], t1, b.tree], [.string (str []), .slice (some ⟨bc, 0, none⟩) (Ex.lt z a b).tree.parts.length cc], ?_, .mk' rfl (.cons (hf.as 0 (.node tLet []) (by omega) rfl) (.cons (hf.as 1 (.node z []) (by omega) rfl) (.cons (hr.mono hz) (.cons (hf.as 3 (b.tree) (by omega) rfl) (.nil))))) (fun y hy => by cases hy; exact still_set (xs := [_, _, _, _, _, _, _, _])) (by simp) hcc (by simp [maxN]) hp, ?_, rfl⟩
   ·rw [step_none_map hst]; rfl
   ·intro e' he'
    rw [hst] at he'
    obtain ⟨q, hq, rfl⟩ := Option.map_eq_some_iff.1 he'
    rw [hte q hq]; rfl
 intro c2
 try simp only [nb] at c2
 have hva : a.value = true := by simpa using c2
 refine s_skip (s_inBlock (o_enter rfl (Om rfl ?_)))
 refine Or rfl rfl rfl ?_
 refine Oa rfl (o_done ?_)
 refine s_round ?_
 refine s_seq (Se rfl (Om rfl (Om rfl (On rfl (Oc rfl rfl rfl (o_done ?_))))))
 refine s_condF rfl (by first | rfl | decide | (simp; done) | omega) ?_
 refine s_exit rfl ?_
 refine Se rfl ?_
 refine o_lOS rfl .free rfl ?_
 refine o_call rfl .free rfl (gturn_lt hf.rep hok0 _) ?_
 rintro _ J1 _ e1 ⟨t1, cs1, rfl, hr, hte, rfl⟩
 obtain ⟨o1, k1, _, rfl, -⟩ := hr.open
 have hle := hle.trans e1
 have hturn : (Ex.lt z a b).step = (Ex.lt z a b).turn := by simp only [Ex.step, hva, Bool.true_eq_false, if_false]
 refine Oe rfl rfl (Oe rfl rfl ?_)
 refine o_st rfl rfl rfl rfl .free ?_
 refine Oa rfl (o_done ?_)
 refine s_ret (.c rfl (.tmp rfl .nil)) ?_
 exact ⟨_, L, hle, drops, t1, _, by rw [hturn]; rfl, hr, by rw [hturn]; exact hte, rfl⟩
set_option maxHeartbeats 1000000 in
theorem gstep_fn {N : Nat} (ihn : StepG N) {g z : Txt} {s t : Ty} {b : Ex} {I : Heap} {cs : List Value} (hlt : SizeOf.sizeOf (Ex.fn g z s t b) < N + 1) (h : Rep I (Ex.fn g z s t b).tree cs) (hok : (Ex.fn g z s t b).ok = true) (L : Own) :
  Fun Tryz.prog 37 [.agg cs.toArray] I L (SP (Ex.fn g z s t b).step L) := by
 obtain ⟨oa, c, oaf, cf, rfl, hf, hcl, hcs⟩ := h.cells
 have hpos : 0 < (Ex.fn g z s t b).tree.parts.length := by show 0 < 6; decide
 obtain ⟨xa, rfl⟩ : ∃ xa, oa = some xa := ⟨_, some_oad hf.nil hpos⟩
 have hlen : (Ex.fn g z s t b).tree.parts.length = 6 := rfl
 have hp := hf.len
 have hp2 := hp
 unfold maxN at hp2
 have hev : eag [102, 117, 110] = [] := rfl
 have hat : (Ex.fn g z s t b).tree.atom = [] := rfl
 simp only [Ex.fn.sizeOf_spec] at hlt
 have hok0 := hok
 simp only [Ex.ok, Bool.and_eq_true, decide_eq_true_eq] at hok
 refine fun_intro (by simp) ?_
 refine Se rfl ?_
 refine o_box rfl rfl .free rfl ?_
 intro b1
 refine o_alloc .free rfl ?_
 intro b2
 refine Oa rfl (o_done (s_seq (Se rfl (Oh rfl ?_))))
 refine o_lO1 rfl .free rfl ?_
 refine Od rfl rfl rfl (o_done ?_)
 first | refine s_fp rfl (by simp [hat]) ?_ | refine s_fn rfl (by simp [hat]) ?_ | refine s_false (by simp [look, opd, *]) ?_
 refine s_skip (Se rfl (Oh rfl ?_))
 refine o_lO1 rfl .free rfl ?_
 first | refine o_ixD rfl rfl 0 rfl .free rfl ?_ | refine o_ixP rfl rfl 0 rfl .free rfl ?_
 refine o_fieldAddr' rfl .free rfl ?_
 refine o_lIF rfl .free rfl ?_
 refine o_put (t := 17) (v' := .string (str [102, 117, 110])) rfl rfl ?_
 refine o_call rfl .free rfl (g_l4Eager [102, 117, 110] _ _) ?_
 rintro _ J0 _ e0 ⟨ok, ck, rfl, hk, rfl⟩
 have hf := hf.mono e0
 have hle := e0
 rw [hev] at hk
 rw [hev]
 refine Oa rfl (o_done (s_seq (Se rfl (Oa rfl (o_done (s_block ?_))))))
 refine s_loop ?_
 refine s_seq (Se rfl (Om rfl (Om rfl (On rfl (Oc rfl rfl rfl (o_done ?_))))))
 refine s_condF rfl (by first | rfl | decide | (simp; done) | omega) ?_
 refine s_exit rfl ?_
 refine Se rfl ?_
 refine o_lOS rfl .free rfl ?_
 refine o_call rfl .free rfl (gturn_fn hf.rep hok0 _) ?_
 rintro _ J1 _ e1 ⟨t1, cs1, rfl, hr, hte, rfl⟩
 obtain ⟨o1, k1, _, rfl, -⟩ := hr.open
 have hle := hle.trans e1
 have hturn : (Ex.fn g z s t b).step = (Ex.fn g z s t b).turn := rfl
 refine Oe rfl rfl (Oe rfl rfl ?_)
 refine o_st rfl rfl rfl rfl .free ?_
 refine Oa rfl (o_done ?_)
 refine s_ret (.c rfl (.tmp rfl .nil)) ?_
 exact ⟨_, L, hle, drops, t1, _, by rw [hturn]; rfl, hr, by rw [hturn]; exact hte, rfl⟩
set_option maxHeartbeats 1000000 in
theorem gstep_un {N : Nat} (ihn : StepG N) {o : U2} {a : Ex} {I : Heap} {cs : List Value} (hlt : SizeOf.sizeOf (Ex.un o a) < N + 1) (h : Rep I (Ex.un o a).tree cs) (hok : (Ex.un o a).ok = true) (L : Own) :
  Fun Tryz.prog 37 [.agg cs.toArray] I L (SP (Ex.un o a).step L) := by
 obtain ⟨oa, c, oaf, cf, rfl, hf, hcl, hcs⟩ := h.cells
 have hpos : 0 < (Ex.un o a).tree.parts.length := by show 0 < 2; decide
 obtain ⟨xa, rfl⟩ : ∃ xa, oa = some xa := ⟨_, some_oad hf.nil hpos⟩
 have hlen : (Ex.un o a).tree.parts.length = 2 := rfl
 have hp := hf.len
 have hp2 := hp
 unfold maxN at hp2
 have hev : eag o.txt = [1] := by cases o <;> rfl
 have hat : (Ex.un o a).tree.atom = [] := rfl
 simp only [Ex.un.sizeOf_spec] at hlt
 have hok0 := hok
 simp only [Ex.ok, Bool.and_eq_true, decide_eq_true_eq] at hok
 refine fun_intro (by simp) ?_
 refine Se rfl ?_
 refine o_box rfl rfl .free rfl ?_
 intro b1
 refine o_alloc .free rfl ?_
 intro b2
 refine Oa rfl (o_done (s_seq (Se rfl (Oh rfl ?_))))
 refine o_lO1 rfl .free rfl ?_
 refine Od rfl rfl rfl (o_done ?_)
 first | refine s_fp rfl (by simp [hat]) ?_ | refine s_fn rfl (by simp [hat]) ?_ | refine s_false (by simp [look, opd, *]) ?_
 refine s_skip (Se rfl (Oh rfl ?_))
 refine o_lO1 rfl .free rfl ?_
 first | refine o_ixD rfl rfl 0 rfl .free rfl ?_ | refine o_ixP rfl rfl 0 rfl .free rfl ?_
 refine o_fieldAddr' rfl .free rfl ?_
 refine o_lIF rfl .free rfl ?_
 refine o_put (t := 17) (v' := .string (str o.txt)) rfl rfl ?_
 refine o_call rfl .free rfl (g_l4Eager o.txt _ _) ?_
 rintro _ J0 _ e0 ⟨ok, ck, rfl, hk, rfl⟩
 have hf := hf.mono e0
 have hle := e0
 rw [hev] at hk
 rw [hev]
 refine Oa rfl (o_done (s_seq (Se rfl (Oa rfl (o_done (s_block ?_))))))
 refine s_loop ?_
 refine s_seq (Se rfl (Om rfl (Om rfl (On rfl (Oc rfl rfl rfl (o_done ?_))))))
 refine s_condT rfl (by first | rfl | decide | (simp; done) | omega) ?_
 refine s_skip (s_seq (s_block (s_seq ?_)))
 refine d_all 10 rfl rfl ?_
 refine Da 0 rfl (y_fieldAddr rfl) ?_
 refine Dt 1 [10] rfl (y_lO1 rfl) ?_
 refine Da 2 rfl (y_move rfl) ?_
 refine Da 3 rfl (y_move rfl) ?_
 first | refine Da 4 rfl (y_ixD rfl rfl _ rfl) ?_ | refine Da 4 rfl (y_ixP rfl rfl _ rfl) ?_
 refine Dt 5 [10] rfl (y_lI1 rfl) ?_
 first | refine Da 6 rfl (y_ixD rfl rfl _ rfl) ?_ | refine Da 6 rfl (y_ixP rfl rfl _ rfl) ?_
 refine Dt 7 [10] rfl (y_lIS rfl) ?_
 refine d_call 8 rfl (by kernel_rfl) rfl rfl .free rfl (g_l4Is _ (Nat.lt_succ_self _) (hf.as 1 a.tree (by omega) rfl) hok _) ?_
 rintro _ _ _ _ ⟨rfl, rfl, rfl⟩
 refine ⟨(.inr heldx), ?_⟩
 refine Da 9 rfl (y_not rfl) ?_
 refine d_done (by kernel_rfl) ?_
 refine s_cond rfl ?_ ?_
 ·intro c2
  try simp only [nb] at c2
  have hva : a.value = false := by simpa using c2
  have hst : (Ex.un o a).step = a.step.map fun q => .un o q := by simp only [Ex.step, hva, if_true]
  refine s_seq ?_
  refine d_all 15 rfl rfl ?_
  refine Da 0 rfl (y_fieldAddr rfl) ?_
  refine Dt 1 [13] rfl (y_lO1 rfl) ?_
  refine Da 2 rfl (y_move rfl) ?_
  refine Da 3 rfl (y_move rfl) ?_
  first | refine Da 4 rfl (y_ixD rfl rfl _ rfl) ?_ | refine Da 4 rfl (y_ixP rfl rfl _ rfl) ?_
  refine Dt 5 [13] rfl (y_lI1 rfl) ?_
  first | refine Da 6 rfl (y_ixD rfl rfl _ rfl) ?_ | refine Da 6 rfl (y_ixP rfl rfl _ rfl) ?_
  refine Dt 7 [13] rfl (y_lIS rfl) ?_
  refine d_two 8 12 (by kernel_rfl) ?_ ?_
  ·skip
   refine i_call 8 rfl rfl rfl .free rfl (ihn (by omega) (hf.as 1 a.tree (by omega) rfl) hok _) ?_
   rintro _ J1 _ e1 ⟨t1, cs1, rfl, hr, hte, rfl⟩
   obtain ⟨o1, k1, _, rfl, -⟩ := hr.open
   have hf := hf.mono e1
   have hle := hle.trans e1
   have hk := hk.mono e1
   refine ⟨(.inr heldx), ?_⟩
   refine Da 9 rfl (y_move rfl) ?_
   refine Da 10 rfl (y_extract rfl rfl) ?_
   refine Da 11 rfl (y_extract rfl rfl) ?_
   refine d_alloc 12 rfl (by kernel_rfl) rfl .free rfl (.inr heldx) ?_
   intro b6
   refine d_st 13 rfl (by kernel_rfl) rfl rfl rfl rfl rfl .free (.inl (by kernel_rfl)) ?_
   refine d_takeA 14 rfl (by kernel_rfl) rfl (.inl (by kernel_rfl)) (y_assign rfl) .free rfl ?_
   refine d_done (by kernel_rfl) ?_
   refine Se rfl ?_
   refine o_lits0 .free rfl ?_
   intro b47
   refine Oh rfl ?_
   refine o_lO1 rfl .free rfl ?_
   refine o_append (B := some (b47, [])) (xs := []) (ys := cellsF oaf cf 0 (Ex.un o a).tree.parts) (m := 0) (c := 0) (by intro kk; simp) (by rfl) rfl rfl ⟨rfl, Nat.le_refl _, rfl⟩ (fun _ h => h) (by have := hcl.length; omega) (fun a ha => by cases ha; exact ((hcs _ rfl).mono hle).reads) (by simp) hcl.plain hpos (by decide) (by omega) (by decide) .free rfl ?_
   intro bc sp cc hB'
   have hcc : (Ex.un o a).tree.parts.length ≤ cc := by have := hB'.2.1; omega
   refine o_put (t := 50) (v' := .slice (some ⟨bc, 0, none⟩) (Ex.un o a).tree.parts.length cc) rfl (by rw [Nat.zero_add]) ?_
   simp only [List.nil_append]
   simp only [show (Ex.un o a).tree.parts = [.node o.txt [], a.tree] from rfl, cellsF, List.cons_append, List.nil_append]
   refine o_struct rfl rfl rfl .free rfl ?_
   refine o_alloc .free rfl ?_
   intro b8
   refine o_st rfl rfl rfl rfl .free ?_
   refine o_done (s_seq ?_)
   refine d_all 9 rfl rfl ?_
   refine Da 0 rfl (y_fieldAddr rfl) ?_
   refine Dt 1 [8] rfl (y_lO1 rfl) ?_
   refine Da 2 rfl (y_move rfl) ?_
   refine Da 3 rfl (y_move rfl) ?_
   first | refine Da 4 rfl (y_ixD rfl rfl _ rfl) ?_ | refine Da 4 rfl (y_ixP rfl rfl _ rfl) ?_
   refine Dt 5 [8] rfl (y_lI1 rfl) ?_
   refine Dt 6 [8] rfl (y_lOS rfl) ?_
   first | refine Da 7 rfl (y_ixD rfl rfl _ rfl) ?_ | refine Da 7 rfl (y_ixP rfl rfl _ rfl) ?_
   refine d_st 8 rfl (by kernel_rfl) rfl rfl rfl rfl rfl .free (.inl (by kernel_rfl)) ?_
   refine d_done (by kernel_rfl) ?_
   refine Se rfl ?_
   refine o_lOS rfl .free rfl ?_
   refine Om rfl ?_
   refine o_st rfl rfl rfl rfl .free ?_
   refine Oa rfl (o_done ?_)
   refine s_mem (fun w h => h.f1) (s_freeze ?_)
   intro hz
   have hf := hf.mono hz
   refine s_ret (.c rfl (.tmp rfl .nil)) ?_
   refine ⟨_, L, hle.trans hz, drops, .node [] [.node o.txt [], t1], [.string (str []), .slice (some ⟨bc, 0, none⟩) (Ex.un o a).tree.parts.length cc], ?_, .mk' rfl (.cons (hf.as 0 (.node o.txt []) (by omega) rfl) (.cons (hr.mono hz) (.nil))) (fun y hy => by cases hy; exact still_set (xs := [_, _, _, _])) (by simp) hcc (by simp [maxN]) hp, ?_, rfl⟩
   ·rw [step_none_map hst]; rfl
   ·intro e' he'
    rw [hst] at he'
    obtain ⟨q, hq, rfl⟩ := Option.map_eq_some_iff.1 he'
    rw [hte q hq]; rfl
  ·skip
   refine i_alloc 12 rfl rfl .free rfl (.inr heldx) ?_
   intro b6
   refine d_call 8 rfl (by kernel_rfl) rfl rfl .free rfl (ihn (by omega) (hf.as 1 a.tree (by omega) rfl) hok _) ?_
   rintro _ J1 _ e1 ⟨t1, cs1, rfl, hr, hte, rfl⟩
   obtain ⟨o1, k1, _, rfl, -⟩ := hr.open
   have hf := hf.mono e1
   have hle := hle.trans e1
   have hk := hk.mono e1
   refine ⟨(.inr heldx), ?_⟩
   refine Da 9 rfl (y_move rfl) ?_
   refine Da 10 rfl (y_extract rfl rfl) ?_
   refine Da 11 rfl (y_extract rfl rfl) ?_
   refine d_st 13 rfl (by kernel_rfl) rfl rfl rfl rfl rfl .free (.inl (by kernel_rfl)) ?_
   refine d_takeA 14 rfl (by kernel_rfl) rfl (.inl (by kernel_rfl)) (y_assign rfl) .free rfl ?_
   refine d_done (by kernel_rfl) ?_
   refine Se rfl ?_
   refine o_lits0 .free rfl ?_
   intro b47
   refine Oh rfl ?_
   refine o_lO1 rfl .free rfl ?_
   refine o_append (B := some (b47, [])) (xs := []) (ys := cellsF oaf cf 0 (Ex.un o a).tree.parts) (m := 0) (c := 0) (by intro kk; simp) (by rfl) rfl rfl ⟨rfl, Nat.le_refl _, rfl⟩ (fun _ h => h) (by have := hcl.length; omega) (fun a ha => by cases ha; exact ((hcs _ rfl).mono hle).reads) (by simp) hcl.plain hpos (by decide) (by omega) (by decide) .free rfl ?_
   intro bc sp cc hB'
   have hcc : (Ex.un o a).tree.parts.length ≤ cc := by have := hB'.2.1; omega
   refine o_put (t := 50) (v' := .slice (some ⟨bc, 0, none⟩) (Ex.un o a).tree.parts.length cc) rfl (by rw [Nat.zero_add]) ?_
   simp only [List.nil_append]
   simp only [show (Ex.un o a).tree.parts = [.node o.txt [], a.tree] from rfl, cellsF, List.cons_append, List.nil_append]
   refine o_struct rfl rfl rfl .free rfl ?_
   refine o_alloc .free rfl ?_
   intro b8
   refine o_st rfl rfl rfl rfl .free ?_
   refine o_done (s_seq ?_)
   refine d_all 9 rfl rfl ?_
   refine Da 0 rfl (y_fieldAddr rfl) ?_
   refine Dt 1 [8] rfl (y_lO1 rfl) ?_
   refine Da 2 rfl (y_move rfl) ?_
   refine Da 3 rfl (y_move rfl) ?_
   first | refine Da 4 rfl (y_ixD rfl rfl _ rfl) ?_ | refine Da 4 rfl (y_ixP rfl rfl _ rfl) ?_
   refine Dt 5 [8] rfl (y_lI1 rfl) ?_
   refine Dt 6 [8] rfl (y_lOS rfl) ?_
   first | refine Da 7 rfl (y_ixD rfl rfl _ rfl) ?_ | refine Da 7 rfl (y_ixP rfl rfl _ rfl) ?_
   refine d_st 8 rfl (by kernel_rfl) rfl rfl rfl rfl rfl .free (.inl (by kernel_rfl)) ?_
   refine d_done (by kernel_rfl) ?_
   refine Se rfl ?_
   refine o_lOS rfl .free rfl ?_
   refine Om rfl ?_
   refine o_st rfl rfl rfl rfl .free ?_
   refine Oa rfl (o_done ?_)
   refine s_mem (fun w h => h.f1) (s_freeze ?_)
   intro hz
   have hf := hf.mono hz
   refine s_ret (.c rfl (.tmp rfl .nil)) ?_
   refine ⟨_, L, hle.trans hz, drops, .node [] [.node o.txt [], t1], [.string (str []), .slice (some ⟨bc, 0, none⟩) (Ex.un o a).tree.parts.length cc], ?_, .mk' rfl (.cons (hf.as 0 (.node o.txt []) (by omega) rfl) (.cons (hr.mono hz) (.nil))) (fun y hy => by cases hy; exact still_set (xs := [_, _, _, _])) (by simp) hcc (by simp [maxN]) hp, ?_, rfl⟩
   ·rw [step_none_map hst]; rfl
   ·intro e' he'
    rw [hst] at he'
    obtain ⟨q, hq, rfl⟩ := Option.map_eq_some_iff.1 he'
    rw [hte q hq]; rfl
 intro c2
 try simp only [nb] at c2
 have hva : a.value = true := by simpa using c2
 refine s_skip (s_inBlock (o_enter rfl (Om rfl ?_)))
 refine Or rfl rfl rfl ?_
 refine Oa rfl (o_done ?_)
 refine s_round ?_
 refine s_seq (Se rfl (Om rfl (Om rfl (On rfl (Oc rfl rfl rfl (o_done ?_))))))
 refine s_condF rfl (by first | rfl | decide | (simp; done) | omega) ?_
 refine s_exit rfl ?_
 refine Se rfl ?_
 refine o_lOS rfl .free rfl ?_
 refine o_call rfl .free rfl (gturn_un hf.rep hok0 _) ?_
 rintro _ J1 _ e1 ⟨t1, cs1, rfl, hr, hte, rfl⟩
 obtain ⟨o1, k1, _, rfl, -⟩ := hr.open
 have hle := hle.trans e1
 have hturn : (Ex.un o a).step = (Ex.un o a).turn := by simp only [Ex.step, hva, Bool.true_eq_false, if_false]
 refine Oe rfl rfl (Oe rfl rfl ?_)
 refine o_st rfl rfl rfl rfl .free ?_
 refine Oa rfl (o_done ?_)
 refine s_ret (.c rfl (.tmp rfl .nil)) ?_
 exact ⟨_, L, hle, drops, t1, _, by rw [hturn]; rfl, hr, by rw [hturn]; exact hte, rfl⟩
theorem gstep_atom {e : Ex} (hb : e.bare = true) {I : Heap} {cs : List Value} (h : Rep I e.tree cs) (hok : e.ok = true) (L : Own) : Fun Tryz.prog 37 [.agg cs.toArray] I L (SP e.step L) := by
 obtain ⟨oa, c, oaf, cf, rfl, hf⟩ := h.at'
 have hno : e.step = none := by cases e <;> first | rfl | cases hb
 have hat : ¬ e.tree.atom = [] := fun h => by rw [(e.atom_iff hok).1 h] at hb; cases hb
 refine fun_intro (by simp) ?_
 refine Se rfl ?_
 refine o_box rfl rfl .free rfl ?_
 intro b1
 refine o_alloc .free rfl ?_
 intro b2
 refine Oa rfl (o_done (s_seq (Se rfl (Oh rfl ?_))))
 refine o_lO1 rfl .free rfl ?_
 refine Od rfl rfl rfl (o_done ?_)
 first | refine s_tp rfl (by simpa using hat) ?_ | refine s_tn rfl (by simpa using hat) ?_ | refine s_true (by simp [look, opd, *]) ?_
 refine Se rfl ?_
 refine o_lOS rfl .free rfl ?_
 refine o_st rfl rfl rfl rfl .free ?_
 refine Oa rfl (o_done ?_)
 refine s_ret (.c rfl (.tmp rfl .nil)) ?_
 exact ⟨_, L, .refl _, drops, SP.same hf.rep hno⟩
theorem gstep_all : ∀ N : Nat, StepG N := by
 intro N
 induction N with
 | zero => intro I e cs h; omega
 | succ N ihn =>
  intro I e cs hlt h hok L
  cases e with
  | num s => exact gstep_atom rfl h hok L
  | name s => exact gstep_atom rfl h hok L
  | bin o p q => exact gstep_bin ihn hlt h hok L
  | ite p q r => exact gstep_ite ihn hlt h hok L
  | lt z p q => exact gstep_lt ihn hlt h hok L
  | fn h1 z s u q => exact gstep_fn ihn hlt h hok L
  | un o p => exact gstep_un ihn hlt h hok L
theorem g_l4Step {I : Heap} {e : Ex} {cs : List Value} (h : Rep I e.tree cs) (hok : e.ok = true) (L : Own) : Fun Tryz.prog 37 [.agg cs.toArray] I L (SP e.step L) := gstep_all _ (Nat.lt_succ_self _) h hok L
mutual
/-- A value that is kept. -/
inductive KV where
 | num (s : Txt)
 | pair (a b : KV)
 | clo (f x : Txt) (s t : Ty) (b : Ex) (r : KE)
/-- The values of names, the last one first. -/
inductive KE where
 | nil
 | cons (n : Txt) (v : KV) (up : KE)
end
def KE.look : KE → Txt → Option KV
 | .nil, _ => none
 | .cons m v up, n => if m = n then some v else up.look n
/-- What an evaluation leaves: a value, the fuel, whether something stuck was met. -/
structure Res where
 v : Option KV
 left : Nat
 stuck : Bool
def B5.act : B5 → KV → KV → Option KV
 | .pair, u, w => some (.pair u w)
 | .call, _, _ => none
 | o, .num a, .num b => some (.num (reck o a b))
 | _, _, _ => none
def U2.act : U2 → KV → Option KV
 | .fst, .pair a _ => some a
 | .snd, .pair _ b => some b
 | _, _ => none
def Res.of (o : Option KV) (n : Nat) : Res := ⟨o, n, o.isNone⟩
def ev : Nat → Nat → Ex → KE → Res
 | 0, _, _, _ => ⟨none, 0, false⟩
 | _ + 1, 0, _, _ => ⟨none, 0, false⟩
 | _ + 1, n + 1, .num s, _ => ⟨some (.num s), n, false⟩
 | _ + 1, n + 1, .name s, k => ⟨k.look s, n, false⟩
 | _ + 1, n + 1, .fn f x s t b, k => ⟨some (.clo f x s t b k), n, false⟩
 | N + 1, n + 1, .bin o a b, k =>
  match (ev N n a k).v with
  | none => ev N n a k
  | some u => match (ev N (ev N n a k).left b k).v with
   | none => ev N (ev N n a k).left b k
   | some w => match o, u with
    | .call, .clo f x s t c r => ev N (ev N (ev N n a k).left b k).left c (.cons x w (.cons f (.clo f x s t c r) r))
    | o, u => .of (o.act u w) (ev N (ev N n a k).left b k).left
 | N + 1, n + 1, .ite a b c, k =>
  match (ev N n a k).v with
  | none => ev N n a k
  | some (.num s) => ev N (ev N n a k).left (if s = [48] then b else c) k
  | some _ => ⟨none, (ev N n a k).left, true⟩
 | N + 1, n + 1, .lt x a b, k =>
  match (ev N n a k).v with
  | none => ev N n a k
  | some u => ev N (ev N n a k).left b (.cons x u k)
 | N + 1, n + 1, .un o a, k =>
  match (ev N n a k).v with
  | none => ev N n a k
  | some u => .of (o.act u) (ev N n a k).left
def eval (n : Nat) (e : Ex) (k : KE) : Res := ev (n + 1) n e k
mutual
/-- A kept value as an expression: the names of a function are put. -/
def KV.ex : KV → Ex
 | .num s => .num s
 | .pair a b => .bin .pair a.ex b.ex
 | .clo f x s t b r => .fn f x s t (r.cl [f, x] b)
/-- An expression with the values of names put, but for those in the list. -/
def KE.cl : KE → List Txt → Ex → Ex
 | .nil, _, e => e
 | .cons n v up, bd, e => up.cl bd (e.putIf n v.ex bd)
end
def KE.dom : KE → List Txt
 | .nil => []
 | .cons n _ up => n :: up.dom
mutual
def KV.wf : KV → Prop
 | .num s => isNum s = true
 | .pair a b => a.wf ∧ b.wf
 | .clo f x s t b r => r.wf ∧ (Ex.fn f x s t b).ok = true ∧ ∀ y ∈ b.occ [], y ∈ [f, x] ∨ y ∈ r.dom
def KE.wf : KE → Prop
 | .nil => True
 | .cons n v up => isName n = true ∧ v.wf ∧ up.wf
end
mutual
theorem KV.closed : ∀ {v : KV}, v.wf → v.ex.occ [] = [] ∧ v.ex.value = true ∧ v.ex.ok = true
 | .num s, h => ⟨rfl, rfl, h⟩
 | .pair a b, h => by
  have h1 := KV.closed h.1
  have h2 := KV.closed h.2
  exact ⟨by simp only [KV.ex, Ex.occ, h1.1, h2.1, List.append_nil], by simp only [KV.ex, Ex.value, h1.2.1, h2.2.1, Bool.and_self], by simp only [KV.ex, Ex.ok, h1.2.2, h2.2.2, Bool.and_self]⟩
 | .clo f x s t b r, h => by
  have hok := h.2.1
  simp only [Ex.ok, Bool.and_eq_true] at hok
  obtain ⟨h1, h2⟩ := KE.closed h.1 [f, x] b hok.2
  refine ⟨?_, rfl, ?_⟩
  ·show (r.cl [f, x] b).occ ([] ++ [f, x]) = []
   rw [occ_none]
   intro y hy
   obtain ⟨hy1, hy2⟩ := h1 y hy
   rcases h.2.2 y hy1 with h3 | h3
   ·exact h3
   ·rcases hy2 with h4 | h4
    ·exact h4
    ·exact absurd h3 h4
  ·simp only [KV.ex, Ex.ok, Bool.and_eq_true]
   exact ⟨hok.1, h2⟩
theorem KE.closed : ∀ {r : KE}, r.wf → ∀ (bd : List Txt) (e : Ex), e.ok = true → (∀ y ∈ (r.cl bd e).occ [], y ∈ e.occ [] ∧ (y ∈ bd ∨ y ∉ r.dom)) ∧ (r.cl bd e).ok = true
 | .nil, _, bd, e, he => ⟨fun y hy => ⟨hy, .inr (by simp [KE.dom])⟩, he⟩
 | .cons n v up, h, bd, e, he => by
  have hv := KV.closed h.2.1
  have hok : (e.putIf n v.ex bd).ok = true := by
   unfold Ex.putIf
   split
   ·exact he
   ·exact Ex.put_ok he hv.2.2
  obtain ⟨h1, h2⟩ := KE.closed h.2.2 bd (e.putIf n v.ex bd) hok
  refine ⟨fun y hy => ?_, h2⟩
  obtain ⟨h3, h4⟩ := h1 y hy
  by_cases hn : n ∈ bd
  ·rw [putIf_in hn] at h3
   refine ⟨h3, ?_⟩
   rcases h4 with h4 | h4
   ·exact .inl h4
   ·by_cases hyn : y = n
    ·exact .inl (hyn ▸ hn)
    ·exact .inr (by simp only [KE.dom, List.mem_cons, not_or]; exact ⟨hyn, h4⟩)
  ·rw [putIf_out hn] at h3
   obtain ⟨h5, h6⟩ := (Ex.put_occ hv.1).1 h3
   refine ⟨h5, ?_⟩
   rcases h4 with h4 | h4
   ·exact .inl h4
   ·exact .inr (by simp only [KE.dom, List.mem_cons, not_or]; exact ⟨h6, h4⟩)
end
/-- Steps, one behind another, of any size. -/
inductive Goes : Ex → Ex → Prop
 | refl {e : Ex} : Goes e e
 | next {e d f : Ex} : e.step = some d → Goes d f → Goes e f
theorem Goes.trans {a b c : Ex} (h : Goes a b) (h' : Goes b c) : Goes a c := by
 induction h with
 | refl => exact h'
 | next hs _ ih => exact .next hs (ih h')
theorem step_value {e d : Ex} (h : e.step = some d) : e.value = false := by
 cases hv : e.value with
 | false => rfl
 | true => rw [value_step hv] at h; cases h
theorem Goes.end {e v d : Ex} (h : Goes e v) (hv : v.step = none) (h' : Goes e d) (hd : d.step = none) : v = d := by
 induction h with
 | refl =>
  cases h' with
  | refl => rfl
  | next hs _ => rw [hv] at hs; cases hs
 | next hs _ ih =>
  cases h' with
  | refl => rw [hd] at hs; cases hs
  | next hs' h2 =>
   rw [hs] at hs'
   obtain rfl := Option.some.inj hs'
   exact ih hv h2
/-- An expression that is neither a value nor takes a step. -/
def Ex.jam (e : Ex) : Prop := e.value = false ∧ e.step = none
/-- What an evaluation says of steps. -/
def Res.says (r : Res) (e : Ex) : Prop := match r.v with
 | some w => w.wf ∧ Goes e w.ex ∧ r.stuck = false
 | none => r.stuck = true → ∃ d, Goes e d ∧ d.jam
theorem Res.says.from {r : Res} {e e' : Ex} (h : r.says e') (hg : Goes e e') : r.says e := by
 unfold Res.says at h ⊢
 split at h
 ·exact ⟨h.1, hg.trans h.2.1, h.2.2⟩
 ·intro hs; obtain ⟨d, h1, h2⟩ := h hs; exact ⟨d, hg.trans h1, h2⟩
theorem Res.says.up {r : Res} {e e' : Ex} (hn : r.v = none) (h : r.says e') (hg : ∀ d, Goes e' d → d.jam → ∃ d', Goes e d' ∧ d'.jam) : r.says e := by
 unfold Res.says at h ⊢
 rw [hn] at h ⊢
 intro hs
 obtain ⟨d, h1, h2⟩ := h hs
 exact hg d h1 h2
theorem Res.says.some {r : Res} {e : Ex} {w : KV} (hn : r.v = Option.some w) (h : r.says e) : w.wf ∧ Goes e w.ex := by
 unfold Res.says at h
 rw [hn] at h
 exact ⟨h.1, h.2.1⟩
/-- What a text is to a step. -/
theorem quad (s : Txt) : (exOf s = none ∧ closedOf s = none) ∨ (∃ e, exOf s = some e ∧ closedOf s = none) ∨ (∃ e, exOf s = some e ∧ closedOf s = some e ∧ e.step = none) ∨ (∃ e e', exOf s = some e ∧ closedOf s = some e ∧ e.step = some e') := by
 cases hx : exOf s with
 | none => exact .inl ⟨rfl, by unfold closedOf; rw [hx]⟩
 | some e =>
  cases hc : closedOf s with
  | none => exact .inr (.inl ⟨e, rfl, rfl⟩)
  | some e2 =>
   obtain rfl := Option.some.inj ((closedOf_some hc).1.symm.trans hx)
   cases hs : e2.step with
   | none => exact .inr (.inr (.inl ⟨e2, rfl, rfl, hs⟩))
   | some e' => exact .inr (.inr (.inr ⟨e2, e', rfl, rfl, hs⟩))
theorem step_len {e e' : Ex} (hok : e.ok = true) (hz : e.size ≤ 120) (h : e.step = some e') : e'.tree.len ≤ 12000000 := by
 have h1 := Ex.len_size (Ex.step_ok hok h)
 have h2 := Ex.step_size hz h
 omega
theorem go_none {e : Ex} (h : e.step = none) : e.go = none := by unfold Ex.go; rw [h]; split <;> rfl
theorem go_of {e e' : Ex} (h : e.step = some e') : e.go = if e'.fine = true then some e' else none := by
 unfold Ex.go
 rw [if_neg (by rw [step_value h]; simp), h]; rfl
theorem SP.go {I : Heap} {e e' : Ex} {ds : List Value} {L : Own} (hs : e.step = some e') (h : Rep I e'.tree ds) : SP e.go L (.tuple #[.agg (List.toArray ds), .bool e'.fine]) I L := by
 rw [go_of hs]
 cases hf : e'.fine with
 | true => exact ⟨_, ds, rfl, h, fun e2 h2 => by obtain rfl := Option.some.inj h2; rfl, rfl⟩
 | false => exact SP.same h rfl
theorem f_form_stepped {I : Heap} (ht : Tab I) {e : Ex} {cs : List Value} (h : Rep I e.tree cs) (hok : e.ok = true) (hz : e.size ≤ 120) (L : Own) : Fun Tryz.prog 32 [.agg cs.toArray] I L (SP e.go L) := by
 obtain ⟨oa, c, oaf, cf, rfl, hf⟩ := h.at'
 refine fun_intro (by simp) ?_
 refine Se rfl ?_
 refine o_box rfl rfl .free rfl ?_
 intro b1
 refine o_alloc .free rfl ?_
 intro b2
 refine Oa rfl (o_done (s_seq (Se rfl ?_)))
 refine o_lOS rfl .free rfl ?_
 refine o_call rfl .free rfl (f_form_isValue _ (Nat.lt_succ_self _) hf.rep hok _) ?_
 rintro _ _ _ _ ⟨rfl, rfl, rfl⟩
 refine o_done ?_
 refine s_cond rfl ?_ ?_
 ·intro c0
  try simp only [nb] at c0
  refine Se rfl ?_
  refine o_struct rfl rfl rfl .free rfl ?_
  refine o_st rfl rfl rfl rfl .free ?_
  refine Oa rfl (o_done ?_)
  refine s_ret (.c rfl (.tmp rfl .nil)) ?_
  exact ⟨_, L, .refl _, drops, SP.none' (by unfold Ex.go; rw [if_pos c0])⟩
 intro c0
 try simp only [nb] at c0
 refine s_skip (Se rfl ?_)
 refine o_lOS rfl .free rfl ?_
 refine o_call rfl .free rfl (f_form_step ht hf.rep hok _) ?_
 rintro _ J1 _ e1 ⟨t1, cs1, rfl, hr, hte, rfl⟩
 obtain ⟨o1, k1, _, rfl, -⟩ := hr.open
 refine Om rfl (Oe rfl rfl (Oe rfl rfl ?_))
 refine o_alloc .free rfl ?_
 intro b4
 refine o_st rfl rfl rfl rfl .free ?_
 refine Oa rfl (o_done (s_seq ?_))
 rcases hs : e.step with _ | e'
 ·skip
  have hgo := go_none hs
  refine d_all 8 rfl rfl ?_
  refine Dt 0 [6] rfl (y_lOS rfl) ?_
  refine Da 1 rfl (y_move rfl) ?_
  refine Da 2 rfl (y_move rfl) ?_
  refine d_put (t := 16) rfl (v' := .bool false) (by first | simp [*] | (simp; omega)) ?_
  refine Ds 3 rfl rfl rfl ?_
  refine Ds 4 rfl rfl rfl ?_
  refine Da 5 rfl (y_pick_false rfl rfl) ?_
  refine d_st 6 rfl (by kernel_rfl) rfl rfl rfl rfl rfl .free (.inl (by kernel_rfl)) ?_
  refine d_takeA 7 rfl (by kernel_rfl) rfl (.inl (by kernel_rfl)) (y_assign rfl) .free rfl ?_
  refine d_done (by kernel_rfl) ?_
  refine s_ret (.c rfl (.tmp rfl .nil)) ?_
  exact ⟨J1, L, e1, drops, SP.same hr hgo⟩
 ·skip
  obtain rfl := hte e' hs
  have hl2 := step_len hok hz hs
  refine d_all 8 rfl rfl ?_
  refine Dt 0 [6] rfl (y_lOS rfl) ?_
  refine Da 1 rfl (y_move rfl) ?_
  refine Da 2 rfl (y_move rfl) ?_
  refine d_put (t := 16) rfl (v' := .bool true) (by first | simp [*] | (simp; omega)) ?_
  refine d_take 3 [4, 6] rfl (by kernel_rfl) rfl heldx (y_lOS rfl) (.met rfl rfl) rfl ?_
  refine d_call 4 rfl (by kernel_rfl) rfl rfl (.met rfl rfl) rfl (f_fine hr (Ex.step_ok hok hs) hl2 _) ?_
  rintro _ _ _ _ ⟨rfl, rfl, rfl⟩
  refine ⟨(.inr heldx), ?_⟩
  refine Da 5 rfl (y_pick_true rfl rfl) ?_
  refine d_st 6 rfl (by kernel_rfl) rfl rfl rfl rfl rfl .free (.inl (by kernel_rfl)) ?_
  refine d_takeA 7 rfl (by kernel_rfl) rfl (.inl (by kernel_rfl)) (y_assign rfl) .free rfl ?_
  refine d_done (by kernel_rfl) ?_
  refine s_ret (.c rfl (.tmp rfl .nil)) ?_
  exact ⟨J1, L, e1, drops, SP.go hs hr⟩
theorem fine_room {e : Ex} (h : e.fine = true) : e.ok = true ∧ e.size ≤ 120 ∧ e.tree.len ≤ 12000 := by
 simp only [Ex.fine, Tree.fits, Bool.and_eq_true, decide_eq_true_eq] at h
 exact ⟨h.1.1, h.1.2, h.2.2⟩
/-- How far a row of steps has come. -/
structure SM where
 e : Ex
 i : Nat
 J : Heap
 o : Option Addr
 k : Nat
def SMr (r : Ex × Nat) (L : Own) : Post := fun v I' L' => v = .tuple #[.string (str r.1.tree.text), .int .i64 (r.2 : Nat), .bool true] ∧ L = L'
def MN (o : Option (Txt × Nat)) (L : Own) : Post := fun v I' L' => v = .tuple #[.string (str ((o.map (·.1)).getD [])), .int .i64 (((o.map (·.2)).getD 0 : Nat)), .bool o.isSome] ∧ L = L'
theorem manyS_some {s : Txt} {e : Ex} {n : Nat} (h : closedOf s = some e) (hn : n ≤ 500) : manyS s (n : Nat) = some ((e.goes n).1.tree.text, (e.goes n).2) := by
 unfold manyS; rw [if_pos (by omega), h]; rfl
theorem manyS_none {s : Txt} {n : Int} (h : closedOf s = none ∨ ¬ (0 ≤ n ∧ n ≤ 500)) : manyS s n = none := by
 unfold manyS
 rcases h with h | h
 ·rw [h]; split <;> rfl
 ·rw [if_neg h]
theorem f_StepMany (s : Txt) (hs : s.length ≤ maxN) (n : Int) {I : Heap} (ht : Tab I) (L : Own) : Fun Tryz.prog 17 [.string (str s), .int .i64 n] I L (MN (manyS s n) L) := by
 refine fun_intro (by simp) ?_
 refine Se rfl ?_
 iterate 3 refine Oa rfl ?_
 refine o_done (Se rfl (Om rfl ?_))
 refine o_call rfl .free rfl (f_readClosed s hs _ _) ?_
 rintro _ J _ hleJ ⟨t, cs, ok, rfl, hrep, rfl, hpf⟩
 obtain ⟨oc, cc, _, rfl, -⟩ := hrep.open
 refine Om rfl (Oe rfl rfl (Oe rfl rfl ?_))
 refine o_alloc .free rfl ?_
 intro b7
 refine o_st rfl rfl rfl rfl .free ?_
 refine Oa rfl (o_done (s_seq (s_seq ?_)))
 rcases hc : closedOf s with _ | e
 ·skip
  rw [hc] at hpf
  obtain rfl := hpf
  refine o_enter rfl (Om rfl ?_)
  refine o_not rfl .free rfl ?_
  refine Om rfl ?_
  refine o_put (t := 19) rfl (v' := .bool true) (by first | rfl | simp [*]) ?_
  iterate 3 refine o_skip rfl rfl rfl ?_
  refine Ot rfl rfl (o_done ?_)
  refine s_true rfl ?_
  refine Se rfl ?_
  iterate 3 refine Oa rfl ?_
  refine o_done ?_
  refine s_ret (.tmp rfl (.tmp rfl (.tmp rfl .nil))) ?_
  exact ⟨J, L, hleJ, drops, by rw [manyS_none (.inl hc)]; rfl, rfl⟩
 ·skip
  rw [hc] at hpf
  obtain ⟨rfl, rfl⟩ := hpf
  obtain ⟨hx, hok, hz, hl, hcl⟩ := closedOf_facts hc
  refine o_enter rfl (Om rfl ?_)
  refine o_not rfl .free rfl ?_
  refine Om rfl ?_
  refine o_put (t := 19) rfl (v' := .bool false) (by first | rfl | simp [*]) ?_
  refine Ow rfl ?_
  refine o_call rfl (.met rfl rfl) rfl (f_within 0 n 500 _ _) ?_
  rintro _ _ _ _ ⟨rfl, rfl, rfl⟩
  refine o_not rfl (.met rfl rfl) rfl ?_
  refine Of rfl rfl (o_done ?_)
  refine s_cond rfl ?_ ?_
  ·intro c0
   try simp only [nb] at c0
   refine Se rfl ?_
   iterate 3 refine Oa rfl ?_
   refine o_done ?_
   refine s_ret (.tmp rfl (.tmp rfl (.tmp rfl .nil))) ?_
   exact ⟨J, L, hleJ, drops, by rw [manyS_none (.inr (by simpa using c0))]; rfl, rfl⟩
  intro c0
  try simp only [nb] at c0
  obtain ⟨N, rfl⟩ : ∃ N : Nat, n = (N : Nat) := ⟨n.toNat, by omega⟩
  have hN : N ≤ 500 := by omega
  have hme := manyS_some hc hN
  have hfe := (exOf_is hx).1
  have hoe : e.occ [] = [] := by simpa [Ex.closed] using hcl
  refine s_skip (Se rfl (Oa rfl (o_done (s_seq (s_block ?_)))))
  refine s_while (X := SM) (fun x => N - x.i) (fun x => [(1, .int .i64 (N : Nat)), (7, .pointer (some ⟨b7, 0, none⟩)), (9, .int .i64 (x.i : Nat))]) (fun x => x.J) (fun x => (b7, .cells [.string (str x.e.tree.atom), .slice x.o x.e.tree.parts.length x.k].toArray 39 (0, 0)) :: L) (fun x => HLe J x.J ∧ Rep x.J x.e.tree [.string (str x.e.tree.atom), .slice x.o x.e.tree.parts.length x.k] ∧ x.e.fine = true ∧ x.e.occ [] = [] ∧ x.i ≤ N ∧ e.goes N = ((x.e.goes (N - x.i)).1, (x.e.goes (N - x.i)).2 + x.i)) ⟨e, 0, J, oc, cc⟩ ⟨.refl _, hrep, hfe, hoe, Nat.zero_le _, rfl⟩ ⟨rfl, rfl, rfl, trivial⟩ (fun _ h => h) ?_
  rintro ⟨x, i, J1, o, k⟩ ⟨hle1, hr1, hf1, hc1, hi1, hgs⟩ ih
  simp only at hle1 hr1 hf1 hc1 hi1 hgs ih ⊢
  have hle := hleJ.trans hle1
  obtain ⟨hok1, hz1, hl1⟩ := fine_room hf1
  refine s_seq (Se rfl (Om rfl (Om rfl (Oc rfl rfl rfl (o_done ?_)))))
  refine s_cond rfl ?_ ?_
  ·intro c1
   try simp only [nb] at c1
   have hiN : i < N := by omega
   have hnx : N - i = (N - (i + 1)) + 1 := by omega
   refine s_skip (s_block (Se rfl ?_))
   refine o_lOS rfl .free rfl ?_
   refine o_call rfl .free rfl (f_form_stepped (ht.mono hle) hr1 hok1 hz1 _) ?_
   rintro _ J2 _ e2 ⟨t1, cs1, rfl, hr, hte, rfl⟩
   obtain ⟨o1, k1, _, rfl, -⟩ := hr.open
   refine Om rfl (Oe rfl rfl (Oe rfl rfl ?_))
   refine o_alloc .free rfl ?_
   intro b10
   refine o_st rfl rfl rfl rfl .free ?_
   refine Oa rfl (o_done (s_seq (Se rfl (Om rfl ?_))))
   refine o_not rfl .free rfl ?_
   refine o_done ?_
   refine s_cond rfl ?_ ?_
   ·intro c2
    try simp only [nb] at c2
    have hgo : x.go = none := by
     cases hg : x.go with
     | none => rfl
     | some d => rw [hg] at c2; cases c2
    have hres : e.goes N = (x, i) := by
     rw [hgs, hnx]
     simp only [Ex.goes, hgo, Nat.zero_add]
    have hle := hle.trans e2
    have hr1 := hr1.mono e2
    refine s_exit rfl ?_
    refine Se rfl ?_
    refine o_lOS rfl .free rfl ?_
    refine o_call rfl .free rfl (f_form_text hr1 (by rw [Tree.text_len]; unfold maxN; omega) _) ?_
    rintro _ _ _ _ ⟨rfl, rfl, rfl⟩
    refine Om rfl ?_
    iterate 3 refine Oa rfl ?_
    refine o_done ?_
    refine s_ret (.tmp rfl (.tmp rfl (.tmp rfl .nil))) ?_
    exact ⟨_, L, hle, drops, by rw [hme, hres]; rfl, rfl⟩
   intro c2
   try simp only [nb] at c2
   obtain ⟨d, hd⟩ : ∃ d, x.go = some d := Option.isSome_iff_exists.1 (by simpa using c2)
   obtain rfl := hte d hd
   have hgd := go_closed hc1 hd
   refine s_skip (Se rfl ?_)
   refine o_lOS rfl .free rfl ?_
   refine o_st rfl rfl rfl rfl .free ?_
   refine o_done (o_enter rfl (Om rfl ?_))
   refine Or rfl rfl rfl ?_
   refine Oa rfl (o_done (s_inBlock ?_))
   refine s_mem (fun w h => h.drop) (s_env (E' := [(1, .int .i64 (N : Nat)), (7, .pointer (some ⟨b7, 0, none⟩)), (9, .int .i64 ((i + 1 : Nat)))]) ⟨rfl, rfl, rfl, trivial⟩ (ih ⟨d, i + 1, J2, o1, k1⟩ ⟨hle1.trans e2, hr, (go_some hd).2.2, hgd.2, hiN, ?_⟩ (by simp only; omega)))
   rw [hgs, hnx]
   simp only [Ex.goes, hd, Nat.add_assoc, Nat.add_comm 1 i]
  intro c1
  try simp only [nb] at c1
  have hres : e.goes N = (x, i) := by
   rw [hgs, show N - i = 0 by omega]
   simp only [Ex.goes, Nat.zero_add]
  refine s_exit rfl ?_
  refine Se rfl ?_
  refine o_lOS rfl .free rfl ?_
  refine o_call rfl .free rfl (f_form_text hr1 (by rw [Tree.text_len]; unfold maxN; omega) _) ?_
  rintro _ _ _ _ ⟨rfl, rfl, rfl⟩
  refine Om rfl ?_
  iterate 3 refine Oa rfl ?_
  refine o_done ?_
  refine s_ret (.tmp rfl (.tmp rfl (.tmp rfl .nil))) ?_
  exact ⟨_, L, hle, drops, by rw [hme, hres]; rfl, rfl⟩
theorem g_Step (s : Txt) (hs : s.length ≤ maxL) (I : Heap) (L : Own) : Fun Tryz.prog 11 [.string (str s)] I L (EL (stepOf s) L) := by
 refine fun_intro (by simp) ?_
 refine Se rfl (Oa rfl (Oa rfl (o_done (Se rfl (Om rfl ?_)))))
 refine o_call rfl .free rfl (g_l2Parse' s hs _ _) ?_
 rintro _ J _ hleJ ⟨t, cs, ok, rfl, hrep, rfl, hpf⟩
 obtain ⟨oc, cc, _, rfl, -⟩ := hrep.open
 refine Om rfl (Oe rfl rfl (Oe rfl rfl ?_))
 refine o_alloc .free rfl ?_
 intro b4
 refine o_st rfl rfl rfl rfl .free ?_
 refine Oa rfl (o_done (s_seq (s_seq ?_)))
 rcases quad s with ⟨hx, hc⟩ | ⟨e, hx, hc⟩ | ⟨e, hx, hc, hst⟩ | ⟨e, e', hx, hc, hst⟩
 ·skip
  rw [hx] at hpf
  obtain rfl := hpf
  refine o_enter rfl (Om rfl ?_)
  refine o_not rfl .free rfl ?_
  refine Om rfl ?_
  refine o_put (t := 15) rfl (v' := .bool true) (by first | rfl | simp [*]) ?_
  iterate 3 refine o_skip rfl rfl rfl ?_
  refine Ot rfl rfl (Om rfl ?_)
  refine o_skip rfl rfl rfl ?_
  refine o_skip rfl rfl rfl ?_
  refine Ot rfl rfl (o_done ?_)
  refine s_true rfl ?_
  refine Se rfl (Oa rfl (Oa rfl (o_done ?_)))
  refine s_ret (.tmp rfl (.tmp rfl .nil)) ?_
  exact ⟨J, L, hleJ, drops, by rw [stepOf_none hc]; rfl, rfl⟩
 ·skip
  rw [hx] at hpf
  obtain ⟨rfl, rfl⟩ := hpf
  refine o_enter rfl (Om rfl ?_)
  refine o_not rfl .free rfl ?_
  refine Om rfl ?_
  refine o_put (t := 15) rfl (v' := .bool false) (by first | rfl | simp [*]) ?_
  refine Ow rfl ?_
  refine o_call rfl (.met rfl rfl) rfl (g_ExprClosed s hs _ _) ?_
  rintro _ _ _ _ ⟨rfl, rfl, rfl⟩
  rw [hc]
  refine o_not rfl (.met rfl rfl) rfl ?_
  refine Of rfl rfl (Om rfl ?_)
  refine o_put (t := 20) rfl (v' := .bool true) (by first | rfl | simp [*]) ?_
  refine o_skip rfl rfl rfl ?_
  refine o_skip rfl rfl rfl ?_
  refine Ot rfl rfl (o_done ?_)
  refine s_true rfl ?_
  refine Se rfl (Oa rfl (Oa rfl (o_done ?_)))
  refine s_ret (.tmp rfl (.tmp rfl .nil)) ?_
  exact ⟨J, L, hleJ, drops, by rw [stepOf_none hc]; rfl, rfl⟩
 ·skip
  rw [hx] at hpf
  obtain ⟨rfl, rfl⟩ := hpf
  obtain ⟨-, hok, hz, hl, hcl⟩ := closedOf_facts hc
  refine o_enter rfl (Om rfl ?_)
  refine o_not rfl .free rfl ?_
  refine Om rfl ?_
  refine o_put (t := 15) rfl (v' := .bool false) (by first | rfl | simp [*]) ?_
  refine Ow rfl ?_
  refine o_call rfl (.met rfl rfl) rfl (g_ExprClosed s hs _ _) ?_
  rintro _ _ _ _ ⟨rfl, rfl, rfl⟩
  rw [hc]
  refine o_not rfl (.met rfl rfl) rfl ?_
  refine Of rfl rfl (Om rfl ?_)
  refine o_put (t := 20) rfl (v' := .bool false) (by first | rfl | simp [*]) ?_
  refine o_lOS rfl (.met rfl rfl) rfl ?_
  refine o_call rfl (.met rfl rfl) rfl (g_l4Is _ (Nat.lt_succ_self _) hrep hok _) ?_
  rintro _ _ _ _ ⟨rfl, rfl, rfl⟩
  refine Of rfl rfl (o_done ?_)
  refine s_cond rfl ?_ ?_
  ·intro c0
   try simp only [nb] at c0
   refine Se rfl (Oa rfl (Oa rfl (o_done ?_)))
   refine s_ret (.tmp rfl (.tmp rfl .nil)) ?_
   exact ⟨J, L, hleJ, drops, by rw [stepOf_some hc, go_none hst]; rfl, rfl⟩
  intro c0
  try simp only [nb] at c0
  refine s_skip (Se rfl ?_)
  refine o_lOS rfl .free rfl ?_
  refine o_call rfl .free rfl (g_l4Step hrep hok _) ?_
  rintro _ J2 _ e2 ⟨t1, cs1, rfl, hr, hte, rfl⟩
  obtain ⟨o1, k1, _, rfl, -⟩ := hr.open
  rw [hst]
  refine Om rfl (Oe rfl rfl (Oe rfl rfl ?_))
  refine o_alloc .free rfl ?_
  intro b6
  refine o_st rfl rfl rfl rfl .free ?_
  refine Oa rfl (o_done (s_seq (Se rfl (Om rfl ?_))))
  refine o_not rfl .free rfl ?_
  refine Om rfl ?_
  refine o_put (t := 31) rfl (v' := .bool true) (by first | rfl | simp [*]) ?_
  iterate 4 refine o_skip rfl rfl rfl ?_
  refine Ot rfl rfl (o_done ?_)
  refine s_true rfl ?_
  refine Se rfl (Oa rfl (Oa rfl (o_done ?_)))
  refine s_ret (.tmp rfl (.tmp rfl .nil)) ?_
  exact ⟨J2, L, hleJ.trans e2, drops, by rw [stepOf_some hc, go_none hst]; rfl, rfl⟩
 ·skip
  rw [hx] at hpf
  obtain ⟨rfl, rfl⟩ := hpf
  obtain ⟨-, hok, hz, hl, hcl⟩ := closedOf_facts hc
  have hok' := Ex.step_ok hok hst
  have hl' := step_len hok hz hst
  have hxo := exOf_text hok'
  refine o_enter rfl (Om rfl ?_)
  refine o_not rfl .free rfl ?_
  refine Om rfl ?_
  refine o_put (t := 15) rfl (v' := .bool false) (by first | rfl | simp [*]) ?_
  refine Ow rfl ?_
  refine o_call rfl (.met rfl rfl) rfl (g_ExprClosed s hs _ _) ?_
  rintro _ _ _ _ ⟨rfl, rfl, rfl⟩
  rw [hc]
  refine o_not rfl (.met rfl rfl) rfl ?_
  refine Of rfl rfl (Om rfl ?_)
  refine o_put (t := 20) rfl (v' := .bool false) (by first | rfl | simp [*]) ?_
  refine o_lOS rfl (.met rfl rfl) rfl ?_
  refine o_call rfl (.met rfl rfl) rfl (g_l4Is _ (Nat.lt_succ_self _) hrep hok _) ?_
  rintro _ _ _ _ ⟨rfl, rfl, rfl⟩
  rw [step_value hst]
  refine Of rfl rfl (o_done ?_)
  first | refine s_fp rfl (by simp) ?_ | refine s_fn rfl (by simp) ?_ | refine s_false (by simp [look, opd, *]) ?_
  refine s_skip (Se rfl ?_)
  refine o_lOS rfl .free rfl ?_
  refine o_call rfl .free rfl (g_l4Step hrep hok _) ?_
  rintro _ J2 _ e2 ⟨t1, cs1, rfl, hr, hte, rfl⟩
  obtain rfl := hte e' hst
  obtain ⟨o1, k1, _, rfl, -⟩ := hr.open
  rw [hst]
  refine Om rfl (Oe rfl rfl (Oe rfl rfl ?_))
  refine o_alloc .free rfl ?_
  intro b6
  refine o_st rfl rfl rfl rfl .free ?_
  refine Oa rfl (o_done (s_seq (Se rfl (Om rfl ?_))))
  refine o_not rfl .free rfl ?_
  refine Om rfl ?_
  refine o_put (t := 31) rfl (v' := .bool false) (by first | rfl | simp [*]) ?_
  refine o_lOS rfl (.met rfl rfl) rfl ?_
  refine o_call rfl (.met rfl rfl) rfl (g_l1Text _ (Nat.lt_succ_self _) hr (Ex.tree_good hok').1 hl' _) ?_
  rintro _ _ _ _ ⟨rfl, rfl, rfl⟩
  refine o_call rfl (.met rfl rfl) rfl (g_ExprValid' _ (by rw [Tree.text_len]; unfold maxL; omega) _ _) ?_
  rintro _ _ _ _ ⟨rfl, rfl, rfl⟩
  refine o_not rfl (.met rfl rfl) rfl ?_
  refine Of rfl rfl (o_done ?_)
  refine s_cond rfl ?_ ?_
  ·intro c1
   try simp only [nb] at c1
   rw [hxo] at c1
   have hgo : e.go = none := by
    rw [go_of hst]
    cases hf : e'.fine with
    | false => rfl
    | true => rw [hf] at c1; simp at c1
   refine Se rfl (Oa rfl (Oa rfl (o_done ?_)))
   refine s_ret (.tmp rfl (.tmp rfl .nil)) ?_
   exact ⟨J2, L, hleJ.trans e2, drops, by rw [stepOf_some hc, hgo]; rfl, rfl⟩
  intro c1
  try simp only [nb] at c1
  rw [hxo] at c1
  have hgo : e.go = some e' := by
   rw [go_of hst]
   cases hf : e'.fine with
   | true => rfl
   | false => rw [hf] at c1; simp at c1
  refine s_skip (Se rfl ?_)
  refine o_lOS rfl .free rfl ?_
  refine o_call rfl .free rfl (g_l1Text _ (Nat.lt_succ_self _) hr (Ex.tree_good hok').1 hl' _) ?_
  rintro _ _ _ _ ⟨rfl, rfl, rfl⟩
  refine Oa rfl (Oa rfl (o_done ?_))
  refine s_ret (.tmp rfl (.tmp rfl .nil)) ?_
  exact ⟨J2, L, hleJ.trans e2, drops, by rw [stepOf_some hc, hgo]; rfl, rfl⟩
/-- How far a row of steps over texts has come. -/
structure SN where
 e : Ex
 i : Nat
 J : Heap
theorem g_StepMany (s : Txt) (hs : s.length ≤ maxL) (n : Int) (I : Heap) (L : Own) : Fun Tryz.prog 16 [.string (str s), .int .i64 n] I L (MN (manyS s n) L) := by
 refine fun_intro (by simp) ?_
 refine Se rfl ?_
 iterate 3 refine Oa rfl ?_
 refine o_done (s_seq (s_seq ?_))
 rcases hc : closedOf s with _ | e
 ·skip
  refine o_enter rfl (Om rfl ?_)
  refine o_call rfl .free rfl (g_ExprClosed s hs _ _) ?_
  rintro _ _ _ _ ⟨rfl, rfl, rfl⟩
  rw [hc]
  refine o_not rfl .free rfl ?_
  refine Om rfl ?_
  refine o_put (t := 13) rfl (v' := .bool true) (by first | rfl | simp [*]) ?_
  iterate 3 refine o_skip rfl rfl rfl ?_
  refine Ot rfl rfl (o_done ?_)
  refine s_true rfl ?_
  refine Se rfl ?_
  iterate 3 refine Oa rfl ?_
  refine o_done ?_
  refine s_ret (.tmp rfl (.tmp rfl (.tmp rfl .nil))) ?_
  exact ⟨I, L, .refl _, drops, by rw [manyS_none (.inl hc)]; rfl, rfl⟩
 ·skip
  obtain ⟨hx, hok, hz, hl, hcl⟩ := closedOf_facts hc
  have hst := (exOf_is hx).2.2.2.2
  refine o_enter rfl (Om rfl ?_)
  refine o_call rfl .free rfl (g_ExprClosed s hs _ _) ?_
  rintro _ _ _ _ ⟨rfl, rfl, rfl⟩
  rw [hc]
  refine o_not rfl .free rfl ?_
  refine Om rfl ?_
  refine o_put (t := 13) rfl (v' := .bool false) (by first | rfl | simp [*]) ?_
  refine Ow rfl ?_
  refine o_call rfl (.met rfl rfl) rfl (g_l6In 0 n 500 _ _) ?_
  rintro _ _ _ _ ⟨rfl, rfl, rfl⟩
  refine o_not rfl (.met rfl rfl) rfl ?_
  refine Of rfl rfl (o_done ?_)
  refine s_cond rfl ?_ ?_
  ·intro c0
   try simp only [nb] at c0
   refine Se rfl ?_
   iterate 3 refine Oa rfl ?_
   refine o_done ?_
   refine s_ret (.tmp rfl (.tmp rfl (.tmp rfl .nil))) ?_
   exact ⟨I, L, .refl _, drops, by rw [manyS_none (.inr (by simpa using c0))]; rfl, rfl⟩
  intro c0
  try simp only [nb] at c0
  obtain ⟨N, rfl⟩ : ∃ N : Nat, n = (N : Nat) := ⟨n.toNat, by omega⟩
  have hN : N ≤ 500 := by omega
  have hme := manyS_some hc hN
  have hfe := (exOf_is hx).1
  have hoe : e.occ [] = [] := by simpa [Ex.closed] using hcl
  refine s_skip (Se rfl (Oa rfl (o_done (s_seq (s_block ?_)))))
  refine s_while (X := SN) (fun x => N - x.i) (fun x => [(0, .string (str x.e.tree.text)), (1, .int .i64 (N : Nat)), (7, .int .i64 (x.i : Nat))]) (fun x => x.J) (fun x => L) (fun x => HLe I x.J ∧ x.e.fine = true ∧ x.e.occ [] = [] ∧ x.i ≤ N ∧ e.goes N = ((x.e.goes (N - x.i)).1, (x.e.goes (N - x.i)).2 + x.i)) ⟨e, 0, I⟩ ⟨.refl _, hfe, hoe, Nat.zero_le _, rfl⟩ ⟨by rw [hst]; rfl, rfl, rfl, trivial⟩ (fun _ h => h) ?_
  rintro ⟨x, i, J1⟩ ⟨hle1, hf1, hc1, hi1, hgs⟩ ih
  simp only at hle1 hf1 hc1 hi1 hgs ih ⊢
  obtain ⟨hok1, hz1, hl1⟩ := fine_room hf1
  have hsx := stepOf_some (closed_text hf1 hc1)
  refine s_seq (Se rfl (Om rfl (Om rfl (Oc rfl rfl rfl (o_done ?_)))))
  refine s_cond rfl ?_ ?_
  ·intro c1
   try simp only [nb] at c1
   have hiN : i < N := by omega
   have hnx : N - i = (N - (i + 1)) + 1 := by omega
   refine s_skip (s_block (Se rfl (Om rfl ?_)))
   refine o_call rfl .free rfl (g_Step x.tree.text (by rw [Tree.text_len]; unfold maxL; omega) _ _) ?_
   rintro _ J2 _ e2 ⟨rfl, rfl⟩
   rw [hsx]
   refine Om rfl (Oe rfl rfl (Oe rfl rfl (Oa rfl (Oa rfl (o_done (s_seq (Se rfl (Om rfl ?_))))))))
   refine o_not rfl .free rfl ?_
   refine o_done ?_
   refine s_cond rfl ?_ ?_
   ·intro c2
    try simp only [nb] at c2
    have hgo : x.go = none := by
     cases hg : x.go with
     | none => rfl
     | some d => rw [hg] at c2; cases c2
    have hres : e.goes N = (x, i) := by
     rw [hgs, hnx]
     simp only [Ex.goes, hgo, Nat.zero_add]
    have hle1 := hle1.trans e2
    refine s_exit rfl ?_
    refine Se rfl (Om rfl (Om rfl ?_))
    iterate 3 refine Oa rfl ?_
    refine o_done ?_
    refine s_ret (.tmp rfl (.tmp rfl (.tmp rfl .nil))) ?_
    exact ⟨_, L, hle1, drops, by rw [hme, hres]; rfl, rfl⟩
   intro c2
   try simp only [nb] at c2
   obtain ⟨d, hd⟩ : ∃ d, x.go = some d := Option.isSome_iff_exists.1 (by simpa using c2)
   have hgd := go_closed hc1 hd
   refine s_skip (Se rfl (Om rfl (Oa rfl (o_done (o_enter rfl (Om rfl ?_))))))
   refine Or rfl rfl rfl ?_
   refine Oa rfl (o_done (s_inBlock ?_))
   refine s_env (E' := [(0, .string (str d.tree.text)), (1, .int .i64 (N : Nat)), (7, .int .i64 ((i + 1 : Nat)))]) ⟨by rw [hd]; rfl, rfl, rfl, trivial⟩ (ih ⟨d, i + 1, J2⟩ ⟨hle1.trans e2, (go_some hd).2.2, hgd.2, hiN, ?_⟩ (by simp only; omega))
   rw [hgs, hnx]
   simp only [Ex.goes, hd, Nat.add_assoc, Nat.add_comm 1 i]
  intro c1
  try simp only [nb] at c1
  have hres : e.goes N = (x, i) := by
   rw [hgs, show N - i = 0 by omega]
   simp only [Ex.goes, Nat.zero_add]
  refine s_exit rfl ?_
  refine Se rfl (Om rfl (Om rfl ?_))
  iterate 3 refine Oa rfl ?_
  refine o_done ?_
  refine s_ret (.tmp rfl (.tmp rfl (.tmp rfl .nil))) ?_
  exact ⟨_, L, hle1, drops, by rw [hme, hres]; rfl, rfl⟩
theorem law_FnExactStepMany {I : Heap} (ht : Tab I) (s : Txt) (hs : s.length ≤ 9223372036854775807) (n : Int) (hn : (Lit.int .i64 n).wf = true) (L : Own) : Fun Tryz.prog 4 [.string (str s), .int .i64 n] I L (YES L) := by
 refine fun_intro (by simp) ?_
 refine Se rfl (Oa rfl (o_done (s_seq (Se rfl (Om rfl ?_)))))
 refine o_len_str rfl .free rfl ?_
 refine Oc rfl rfl rfl (o_done ?_)
 refine Si rfl ?_ ?_
 ·intro c0
  refine Se rfl (Oa rfl (o_done (s_ret (.tmp rfl .nil) ?_)))
  exact ⟨I, L, .refl _, fun _ h => h, rfl, rfl⟩
 intro c0
 have hs := (show s.length ≤ maxN by unfold maxN; omega)
 refine s_skip (Se rfl (Om rfl (Om rfl ?_)))
 refine o_call rfl .free rfl (g_StepMany s (maxN_maxL hs) n _ _) ?_
 rintro _ I1 _ e1 ⟨rfl, rfl⟩
 refine Om rfl ?_
 iterate 3 refine Oe rfl rfl ?_
 iterate 3 refine Oa rfl ?_
 refine o_done (Se rfl (Om rfl (Om rfl ?_)))
 refine o_call rfl .free rfl (f_StepMany s hs n (ht.mono e1) _) ?_
 rintro _ I2 _ e2 ⟨rfl, rfl⟩
 refine Om rfl ?_
 iterate 3 refine Oe rfl rfl ?_
 iterate 3 refine Oa rfl ?_
 refine o_done (s_seq (Se rfl (Om rfl (Om rfl (Od rfl rfl rfl (Om rfl ?_))))))
 first | refine g_fp rfl rfl (by simp) ?_ | refine g_fn rfl rfl (by simp) ?_
 refine Ow rfl (Ow rfl ?_)
 refine o_cmp rfl rfl rfl (.met rfl rfl) rfl ?_
 refine Of rfl rfl (Om rfl ?_)
 first | refine g_fp rfl rfl (by simp) ?_ | refine g_fn rfl rfl (by simp) ?_
 refine Ow rfl (Ow rfl ?_)
 refine o_cmpb rfl rfl rfl (.met rfl rfl) rfl ?_
 refine Of rfl rfl (o_done ?_)
 first | refine s_fp rfl (by simp) ?_ | refine s_fn rfl (by simp) ?_ | refine s_false (by simp [look, opd, *]) ?_
 refine s_skip (Se rfl (Oa rfl (o_done (s_ret (.tmp rfl .nil) ?_))))
 exact ⟨I2, L, e1.trans e2, fun _ h => h, rfl, rfl⟩
/-- The variable has a type of as many whole numbers as the table. -/
def tabTyped (P : Program) (s : String) : Bool :=
 match P.globalNamed s with
 | some g => match (P.globals[g]?).map (·.type) with
  | some t => match P.underlying t with
   | some (.array n e) => (match P.underlying e with | some (.int .u64) => true | _ => false) && (P.cellsOf e == 1) && (P.cellsOf t == n)
   | _ => false
  | none => false
 | none => false
theorem tab_of {laid : List (String × DataW Unit)} {W : World} (h : laidMetH Tryz.prog laid W)
  (hk : (laid.filter fun x => x.1 == "internal/strconv.uint64pow10") = [("internal/strconv.uint64pow10", Lib.tabData .u64 Lib.pow10Tab)]) (ht : tabTyped Tryz.prog "internal/strconv.uint64pow10" = true) : Tab (ofWorld W) := by
 have h1 := h.filter (fun x => x.1 == "internal/strconv.uint64pow10")
 rw [hk] at h1
 have h1 : laidMet Tryz.prog [("internal/strconv.uint64pow10", Lib.tabData .u64 Lib.pow10Tab)] W := (laidMetH_iff.1 h1).1
 have h2 : Lib.TabIs Tryz.prog W "internal/strconv.uint64pow10" .u64 Lib.pow10Tab := by
  unfold tabTyped at ht
  split at ht
  ·rename_i g hg
   split at ht
   ·rename_i t hty
    split at ht
    ·rename_i n e hu
     simp only [Bool.and_eq_true, beq_iff_eq] at ht
     obtain ⟨⟨h3, h4⟩, h5⟩ := ht
     split at h3
     ·rename_i he
      exact Lib.tabIs_of_head hg hty hu he h4 h5 h1
     ·cases h3
    ·cases ht
   ·cases ht
  ·cases ht
 intro L w hm
 unfold Lib.TabIs World.var? at h2 ⊢
 cases hg : Tryz.prog.globalNamed "internal/strconv.uint64pow10" with
 | none => rw [hg] at h2; cases h2
 | some g =>
  rw [hg] at h2
  simp only [Option.bind_some] at h2 ⊢
  cases ho : W.heap[g]? with
  | none => rw [ho] at h2; cases h2
  | some o => rw [ho] at h2; rw [hm.1.1 g o ho]; exact h2
end Go.Proofs.YtfddjcmeejjhiaaGreatDoor
