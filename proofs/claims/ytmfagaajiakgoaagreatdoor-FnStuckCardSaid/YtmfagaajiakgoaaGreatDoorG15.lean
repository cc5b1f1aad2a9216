/- A step, by the reference. No conditions. -/
import Derived.Test.YtmfagaajiakgoaaGreatDoorG14
import Derived.LaidSub
import Derived.Lib.LaidTab

namespace Go.Proofs.YtmfagaajiakgoaaGreatDoor
set_option maxRecDepth 100000
set_option linter.unusedVariables false
set_option linter.unusedSimpArgs false

def Q4 (N : Nat) : Prop := ∀ {I : Heap} {e : Ex} {cs : List Value} (_ : SizeOf.sizeOf e < N) (_ : Rep I e.tree cs) (_ : e.ok = true) (L : Bl), Fun Tryz.prog 68 [.agg cs.toArray] I L (SP e.step L)
theorem Kz {e : Ex} (hn : Bt e.tree.atom = true) (hok : e.ok = true) : ∃ s, e = .num s := by
 cases e with
 | num s => exact ⟨s, rfl⟩
 | name s => have h2 := E3 (show Bs s = true from hok); rw [show Bt s = true from hn] at h2; cases h2
 | _ => cases hn
def Hq (s : Au) : Int := bif Bt s then Cc s else 0
theorem Nw (s : Au) : -999 ≤ Hq s ∧ Hq s ≤ 999 := by
 unfold Hq
 cases h : Bt s with
 | true => exact Nv h
 | false => exact ⟨by simp, by simp⟩
theorem Kk {s : Au} (h : Bt s = true) : Hq s = Cc s := by unfold Hq; rw [h]; rfl
theorem SP.same {I : Heap} {o : Option Ex} {t : Tree} {ds : List Value} {L : Bl} (h : Rep I t ds) (ho : o = none) : SP o L (.tuple #[.agg (List.toArray ds), .bool false]) I L :=
 ⟨t, ds, by rw [ho]; rfl, h, fun e' h => (by rw [ho] at h; cases h), rfl⟩
set_option maxHeartbeats 1000000 in
theorem Yn {a b : Ex} {I : Heap} {cs : List Value} (h : Rep I (Ex.bin .add a b).tree cs) (hok : (Ex.bin .add a b).ok = true) (L : Bl) :
  Fun Tryz.prog 118 [.agg cs.toArray] I L (SP (Ex.bin .add a b).turn L) := by
 obtain ⟨oa, c, oaf, cf, rfl, hf⟩ := h.at'
 have hlen : (Ex.bin .add a b).tree.parts.length = 3 := rfl
 obtain ⟨xa, rfl⟩ : ∃ xa, oa = some xa := ⟨_, Cq hf.nil (show 0 < 3 by decide)⟩
 have hhd : ((Ex.bin .add a b).tree.pt 0).atom = [43] := rfl
 have hle : HLe I I := .refl _
 have hok0 := hok
 simp only [Ex.ok, Bool.and_eq_true, decide_eq_true_eq] at hok
 refine Ai (by simp) ?_; refine Se rfl ?_; refine Cd rfl rfl .free rfl ?_; intro b1; refine Ax .free rfl ?_; intro b2; refine Oa rfl (Aa (Se rfl (Oh rfl ?_))); refine A6 rfl .free rfl ?_
 first | refine A3 rfl rfl 0 rfl .free rfl ?_ | refine A4 rfl rfl 0 rfl .free rfl ?_
 refine Av rfl .free rfl ?_; refine Dk rfl .free rfl ?_; refine C3 (t := 15) (v' := .string (str [43])) rfl rfl ?_; refine Oa rfl (Aa (Se rfl (Oh rfl ?_))); refine A6 rfl .free rfl ?_; refine Oa rfl (Aa (Se rfl (Om rfl ?_)))
 first | refine A3 rfl rfl 1 rfl .free rfl ?_ | refine A4 rfl rfl 1 rfl .free rfl ?_
 refine Av rfl .free rfl ?_; refine Dk rfl .free rfl ?_; refine Ca rfl (C8 ((Ex.bin .add a b).tree.pt 1).atom (hf.rp 1 (show 1 < 3 by decide)).atom_le _ _) ?_; rintro _ _ _ _ ⟨rfl, rfl, rfl⟩; refine Om rfl (Oe rfl rfl (Oe rfl rfl (Oa rfl (Oa rfl (Aa (Se rfl (Om rfl (Om rfl (On rfl ?_))))))))); refine Or rfl rfl rfl ?_; refine C3 (t := 30) (v' := .int .i64 ((2 : Nat))) rfl (by rfl) ?_
 first | refine A3 rfl rfl _ rfl .free rfl ?_ | refine A4 rfl rfl _ rfl .free rfl ?_
 refine Av rfl .free rfl ?_; refine Dk rfl .free rfl ?_; refine Ca rfl (C8 ((Ex.bin .add a b).tree.pt 2).atom (hf.rp 2 (show 2 < 3 by decide)).atom_le _ _) ?_; rintro _ _ _ _ ⟨rfl, rfl, rfl⟩; refine Om rfl (Oe rfl rfl (Oe rfl rfl (Oa rfl (Oa rfl (Aa (Ab (Se rfl (Om rfl (Aa (Aj (Ab (Se rfl (Od rfl rfl rfl (Oa rfl (Aa ?_)))))))))))))))
 first | refine St rfl (rfl) ?_ | refine Bj (by simp [look, Ba, *]) ?_
 refine Af ?_
 first | refine St rfl (rfl) ?_ | refine Bj (by simp [look, Ba, *]) ?_
 refine Se rfl ?_
 iterate 3 refine Om rfl ?_
 refine Ca rfl (Nm .add (Hq a.tree.atom) (Hq b.tree.atom) (Nw _) (Nw _) _ _) ?_; rintro _ _ _ _ ⟨rfl, rfl, rfl⟩; refine Ca rfl (P6 (F2 (B5.calc .add (Hq a.tree.atom) (Hq b.tree.atom))) (by have := Cu (B5.calc .add (Hq a.tree.atom) (Hq b.tree.atom)); omega) (by have := Cu (B5.calc .add (Hq a.tree.atom) (Hq b.tree.atom)); omega) _ _) ?_; rintro _ _ _ _ ⟨rfl, rfl, rfl⟩; refine Ca rfl (P3 (K1 (F2 (B5.calc .add (Hq a.tree.atom) (Hq b.tree.atom)))) _ _) ?_; rintro _ _ _ _ ⟨rfl, rfl, rfl⟩; refine Om rfl (Om rfl ?_)
 apply Ee 49 51 rfl
 ·intro g9_8 hk
  try simp only [nb] at g9_8
  refine Ow rfl (Ot rfl rfl ?_)
  exact Bb 1 rfl rfl hk
 ·intro _ hk; refine Bm 1 rfl ?_; refine Of rfl rfl ?_
  exact Bb 1 rfl rfl hk
 refine Bk rfl rfl rfl rfl .free ?_; refine Oa rfl (Aa ?_); refine Ad (.c rfl (.tmp rfl .nil)) ?_
 have hsh := Cu (B5.calc .add (Hq a.tree.atom) (Hq b.tree.atom))
 have hil := Iv (M1 hsh.1 hsh.2).1
 refine ⟨I, L, hle, Ay, .node (K1 (F2 (B5.calc .add (Hq a.tree.atom) (Hq b.tree.atom)))) [], _, ?_, .ofAtom (by unfold As; omega), fun e' he' => ?_, rfl⟩
 ·have hi : (Ex.bin .add a b).turn.isSome = (Bt a.tree.atom && Bt b.tree.atom) := by
   cases ha : Bt a.tree.atom with
   | true =>
    obtain ⟨p, rfl⟩ := Kz ha hok.1
    cases hb : Bt b.tree.atom with
    | true => obtain ⟨q, rfl⟩ := Kz hb hok.2; rfl
    | false =>
     cases hty : (Ex.bin .add (.num p) b).turn with
     | none => rfl
     | some e' =>
      rcases Ew hty with ⟨f, y, s, t, g, ho, _, rfl⟩ | ⟨p', q, ho, _, rfl, rfl⟩
      ·cases ho
      ·rw [show Bt (Ex.num q).tree.atom = true from hok.2] at hb; cases hb
   | false =>
    cases hty : (Ex.bin .add a b).turn with
    | none => rfl
    | some e' =>
     rcases Ew hty with ⟨f, y, s, t, g, ho, _, rfl⟩ | ⟨p', q, ho, rfl, _, rfl⟩
     ·cases ho
     ·rw [show Bt (Ex.num p').tree.atom = true from hok.1] at ha; cases ha
  rw [hi]; rfl
 ·rcases Ew he' with ⟨f, y, s, t, g, ho, _, rfl⟩ | ⟨p', q, ho, rfl, rfl, rfl⟩
  ·cases ho
  ·have h1 : Hq (Ex.num p').tree.atom = Cc p' := Kk hok.1
   have h2 : Hq (Ex.num q).tree.atom = Cc q := Kk hok.2
   rw [h1, h2]; rfl
set_option maxHeartbeats 1000000 in
theorem Yt {a b : Ex} {I : Heap} {cs : List Value} (h : Rep I (Ex.bin .sub a b).tree cs) (hok : (Ex.bin .sub a b).ok = true) (L : Bl) :
  Fun Tryz.prog 118 [.agg cs.toArray] I L (SP (Ex.bin .sub a b).turn L) := by
 obtain ⟨oa, c, oaf, cf, rfl, hf⟩ := h.at'
 have hlen : (Ex.bin .sub a b).tree.parts.length = 3 := rfl
 obtain ⟨xa, rfl⟩ : ∃ xa, oa = some xa := ⟨_, Cq hf.nil (show 0 < 3 by decide)⟩
 have hhd : ((Ex.bin .sub a b).tree.pt 0).atom = [45] := rfl
 have hle : HLe I I := .refl _
 have hok0 := hok
 simp only [Ex.ok, Bool.and_eq_true, decide_eq_true_eq] at hok
 refine Ai (by simp) ?_; refine Se rfl ?_; refine Cd rfl rfl .free rfl ?_; intro b1; refine Ax .free rfl ?_; intro b2; refine Oa rfl (Aa (Se rfl (Oh rfl ?_))); refine A6 rfl .free rfl ?_
 first | refine A3 rfl rfl 0 rfl .free rfl ?_ | refine A4 rfl rfl 0 rfl .free rfl ?_
 refine Av rfl .free rfl ?_; refine Dk rfl .free rfl ?_; refine C3 (t := 15) (v' := .string (str [45])) rfl rfl ?_; refine Oa rfl (Aa (Se rfl (Oh rfl ?_))); refine A6 rfl .free rfl ?_; refine Oa rfl (Aa (Se rfl (Om rfl ?_)))
 first | refine A3 rfl rfl 1 rfl .free rfl ?_ | refine A4 rfl rfl 1 rfl .free rfl ?_
 refine Av rfl .free rfl ?_; refine Dk rfl .free rfl ?_; refine Ca rfl (C8 ((Ex.bin .sub a b).tree.pt 1).atom (hf.rp 1 (show 1 < 3 by decide)).atom_le _ _) ?_; rintro _ _ _ _ ⟨rfl, rfl, rfl⟩; refine Om rfl (Oe rfl rfl (Oe rfl rfl (Oa rfl (Oa rfl (Aa (Se rfl (Om rfl (Om rfl (On rfl ?_))))))))); refine Or rfl rfl rfl ?_; refine C3 (t := 30) (v' := .int .i64 ((2 : Nat))) rfl (by rfl) ?_
 first | refine A3 rfl rfl _ rfl .free rfl ?_ | refine A4 rfl rfl _ rfl .free rfl ?_
 refine Av rfl .free rfl ?_; refine Dk rfl .free rfl ?_; refine Ca rfl (C8 ((Ex.bin .sub a b).tree.pt 2).atom (hf.rp 2 (show 2 < 3 by decide)).atom_le _ _) ?_; rintro _ _ _ _ ⟨rfl, rfl, rfl⟩; refine Om rfl (Oe rfl rfl (Oe rfl rfl (Oa rfl (Oa rfl (Aa (Ab (Se rfl (Om rfl (Aa (Aj (Ab (Se rfl (Od rfl rfl rfl (Oa rfl (Aa ?_)))))))))))))))
 first | refine Sf rfl (by decide) ?_ | refine Ap (by simp [look, Ba, *]) ?_
 refine Se rfl (Od rfl rfl rfl (Oa rfl (Aa ?_)))
 first | refine St rfl (rfl) ?_ | refine Bj (by simp [look, Ba, *]) ?_
 refine Af ?_
 first | refine St rfl (rfl) ?_ | refine Bj (by simp [look, Ba, *]) ?_
 refine Se rfl ?_
 iterate 3 refine Om rfl ?_
 refine Ca rfl (Nm .sub (Hq a.tree.atom) (Hq b.tree.atom) (Nw _) (Nw _) _ _) ?_; rintro _ _ _ _ ⟨rfl, rfl, rfl⟩; refine Ca rfl (P6 (F2 (B5.calc .sub (Hq a.tree.atom) (Hq b.tree.atom))) (by have := Cu (B5.calc .sub (Hq a.tree.atom) (Hq b.tree.atom)); omega) (by have := Cu (B5.calc .sub (Hq a.tree.atom) (Hq b.tree.atom)); omega) _ _) ?_; rintro _ _ _ _ ⟨rfl, rfl, rfl⟩; refine Ca rfl (P3 (K1 (F2 (B5.calc .sub (Hq a.tree.atom) (Hq b.tree.atom)))) _ _) ?_; rintro _ _ _ _ ⟨rfl, rfl, rfl⟩; refine Om rfl (Om rfl ?_)
 apply Ee 49 51 rfl
 ·intro g9_8 hk
  try simp only [nb] at g9_8
  refine Ow rfl (Ot rfl rfl ?_)
  exact Bb 1 rfl rfl hk
 ·intro _ hk; refine Bm 1 rfl ?_; refine Of rfl rfl ?_
  exact Bb 1 rfl rfl hk
 refine Bk rfl rfl rfl rfl .free ?_; refine Oa rfl (Aa ?_); refine Ad (.c rfl (.tmp rfl .nil)) ?_
 have hsh := Cu (B5.calc .sub (Hq a.tree.atom) (Hq b.tree.atom))
 have hil := Iv (M1 hsh.1 hsh.2).1
 refine ⟨I, L, hle, Ay, .node (K1 (F2 (B5.calc .sub (Hq a.tree.atom) (Hq b.tree.atom)))) [], _, ?_, .ofAtom (by unfold As; omega), fun e' he' => ?_, rfl⟩
 ·have hi : (Ex.bin .sub a b).turn.isSome = (Bt a.tree.atom && Bt b.tree.atom) := by
   cases ha : Bt a.tree.atom with
   | true =>
    obtain ⟨p, rfl⟩ := Kz ha hok.1
    cases hb : Bt b.tree.atom with
    | true => obtain ⟨q, rfl⟩ := Kz hb hok.2; rfl
    | false =>
     cases hty : (Ex.bin .sub (.num p) b).turn with
     | none => rfl
     | some e' =>
      rcases Ew hty with ⟨f, y, s, t, g, ho, _, rfl⟩ | ⟨p', q, ho, _, rfl, rfl⟩
      ·cases ho
      ·rw [show Bt (Ex.num q).tree.atom = true from hok.2] at hb; cases hb
   | false =>
    cases hty : (Ex.bin .sub a b).turn with
    | none => rfl
    | some e' =>
     rcases Ew hty with ⟨f, y, s, t, g, ho, _, rfl⟩ | ⟨p', q, ho, rfl, _, rfl⟩
     ·cases ho
     ·rw [show Bt (Ex.num p').tree.atom = true from hok.1] at ha; cases ha
  rw [hi]; rfl
 ·rcases Ew he' with ⟨f, y, s, t, g, ho, _, rfl⟩ | ⟨p', q, ho, rfl, rfl, rfl⟩
  ·cases ho
  ·have h1 : Hq (Ex.num p').tree.atom = Cc p' := Kk hok.1
   have h2 : Hq (Ex.num q).tree.atom = Cc q := Kk hok.2
   rw [h1, h2]; rfl
set_option maxHeartbeats 1000000 in
theorem Yr {a b : Ex} {I : Heap} {cs : List Value} (h : Rep I (Ex.bin .mul a b).tree cs) (hok : (Ex.bin .mul a b).ok = true) (L : Bl) :
  Fun Tryz.prog 118 [.agg cs.toArray] I L (SP (Ex.bin .mul a b).turn L) := by
 obtain ⟨oa, c, oaf, cf, rfl, hf⟩ := h.at'
 have hlen : (Ex.bin .mul a b).tree.parts.length = 3 := rfl
 obtain ⟨xa, rfl⟩ : ∃ xa, oa = some xa := ⟨_, Cq hf.nil (show 0 < 3 by decide)⟩
 have hhd : ((Ex.bin .mul a b).tree.pt 0).atom = [42] := rfl
 have hle : HLe I I := .refl _
 have hok0 := hok
 simp only [Ex.ok, Bool.and_eq_true, decide_eq_true_eq] at hok
 refine Ai (by simp) ?_; refine Se rfl ?_; refine Cd rfl rfl .free rfl ?_; intro b1; refine Ax .free rfl ?_; intro b2; refine Oa rfl (Aa (Se rfl (Oh rfl ?_))); refine A6 rfl .free rfl ?_
 first | refine A3 rfl rfl 0 rfl .free rfl ?_ | refine A4 rfl rfl 0 rfl .free rfl ?_
 refine Av rfl .free rfl ?_; refine Dk rfl .free rfl ?_; refine C3 (t := 15) (v' := .string (str [42])) rfl rfl ?_; refine Oa rfl (Aa (Se rfl (Oh rfl ?_))); refine A6 rfl .free rfl ?_; refine Oa rfl (Aa (Se rfl (Om rfl ?_)))
 first | refine A3 rfl rfl 1 rfl .free rfl ?_ | refine A4 rfl rfl 1 rfl .free rfl ?_
 refine Av rfl .free rfl ?_; refine Dk rfl .free rfl ?_; refine Ca rfl (C8 ((Ex.bin .mul a b).tree.pt 1).atom (hf.rp 1 (show 1 < 3 by decide)).atom_le _ _) ?_; rintro _ _ _ _ ⟨rfl, rfl, rfl⟩; refine Om rfl (Oe rfl rfl (Oe rfl rfl (Oa rfl (Oa rfl (Aa (Se rfl (Om rfl (Om rfl (On rfl ?_))))))))); refine Or rfl rfl rfl ?_; refine C3 (t := 30) (v' := .int .i64 ((2 : Nat))) rfl (by rfl) ?_
 first | refine A3 rfl rfl _ rfl .free rfl ?_ | refine A4 rfl rfl _ rfl .free rfl ?_
 refine Av rfl .free rfl ?_; refine Dk rfl .free rfl ?_; refine Ca rfl (C8 ((Ex.bin .mul a b).tree.pt 2).atom (hf.rp 2 (show 2 < 3 by decide)).atom_le _ _) ?_; rintro _ _ _ _ ⟨rfl, rfl, rfl⟩; refine Om rfl (Oe rfl rfl (Oe rfl rfl (Oa rfl (Oa rfl (Aa (Ab (Se rfl (Om rfl (Aa (Aj (Ab (Se rfl (Od rfl rfl rfl (Oa rfl (Aa ?_)))))))))))))))
 first | refine Sf rfl (by decide) ?_ | refine Ap (by simp [look, Ba, *]) ?_
 refine Se rfl (Od rfl rfl rfl (Oa rfl (Aa ?_)))
 first | refine Sf rfl (by decide) ?_ | refine Ap (by simp [look, Ba, *]) ?_
 refine Ah rfl (Od rfl rfl rfl (Oa rfl (Aa ?_)))
 first | refine St rfl (rfl) ?_ | refine Bj (by simp [look, Ba, *]) ?_
 refine Se rfl ?_
 iterate 3 refine Om rfl ?_
 refine Ca rfl (Nm .mul (Hq a.tree.atom) (Hq b.tree.atom) (Nw _) (Nw _) _ _) ?_; rintro _ _ _ _ ⟨rfl, rfl, rfl⟩; refine Ca rfl (P6 (F2 (B5.calc .mul (Hq a.tree.atom) (Hq b.tree.atom))) (by have := Cu (B5.calc .mul (Hq a.tree.atom) (Hq b.tree.atom)); omega) (by have := Cu (B5.calc .mul (Hq a.tree.atom) (Hq b.tree.atom)); omega) _ _) ?_; rintro _ _ _ _ ⟨rfl, rfl, rfl⟩; refine Ca rfl (P3 (K1 (F2 (B5.calc .mul (Hq a.tree.atom) (Hq b.tree.atom)))) _ _) ?_; rintro _ _ _ _ ⟨rfl, rfl, rfl⟩; refine Om rfl (Om rfl ?_)
 apply Ee 49 51 rfl
 ·intro g9_8 hk
  try simp only [nb] at g9_8
  refine Ow rfl (Ot rfl rfl ?_)
  exact Bb 1 rfl rfl hk
 ·intro _ hk; refine Bm 1 rfl ?_; refine Of rfl rfl ?_
  exact Bb 1 rfl rfl hk
 refine Bk rfl rfl rfl rfl .free ?_; refine Oa rfl (Aa ?_); refine Ad (.c rfl (.tmp rfl .nil)) ?_
 have hsh := Cu (B5.calc .mul (Hq a.tree.atom) (Hq b.tree.atom))
 have hil := Iv (M1 hsh.1 hsh.2).1
 refine ⟨I, L, hle, Ay, .node (K1 (F2 (B5.calc .mul (Hq a.tree.atom) (Hq b.tree.atom)))) [], _, ?_, .ofAtom (by unfold As; omega), fun e' he' => ?_, rfl⟩
 ·have hi : (Ex.bin .mul a b).turn.isSome = (Bt a.tree.atom && Bt b.tree.atom) := by
   cases ha : Bt a.tree.atom with
   | true =>
    obtain ⟨p, rfl⟩ := Kz ha hok.1
    cases hb : Bt b.tree.atom with
    | true => obtain ⟨q, rfl⟩ := Kz hb hok.2; rfl
    | false =>
     cases hty : (Ex.bin .mul (.num p) b).turn with
     | none => rfl
     | some e' =>
      rcases Ew hty with ⟨f, y, s, t, g, ho, _, rfl⟩ | ⟨p', q, ho, _, rfl, rfl⟩
      ·cases ho
      ·rw [show Bt (Ex.num q).tree.atom = true from hok.2] at hb; cases hb
   | false =>
    cases hty : (Ex.bin .mul a b).turn with
    | none => rfl
    | some e' =>
     rcases Ew hty with ⟨f, y, s, t, g, ho, _, rfl⟩ | ⟨p', q, ho, rfl, _, rfl⟩
     ·cases ho
     ·rw [show Bt (Ex.num p').tree.atom = true from hok.1] at ha; cases ha
  rw [hi]; rfl
 ·rcases Ew he' with ⟨f, y, s, t, g, ho, _, rfl⟩ | ⟨p', q, ho, rfl, rfl, rfl⟩
  ·cases ho
  ·have h1 : Hq (Ex.num p').tree.atom = Cc p' := Kk hok.1
   have h2 : Hq (Ex.num q).tree.atom = Cc q := Kk hok.2
   rw [h1, h2]; rfl
set_option maxHeartbeats 1000000 in
theorem Wj {a b : Ex} {I : Heap} {cs : List Value} (h : Rep I (Ex.bin .call a b).tree cs) (hok : (Ex.bin .call a b).ok = true) (L : Bl) :
  Fun Tryz.prog 118 [.agg cs.toArray] I L (SP (Ex.bin .call a b).turn L) := by
 obtain ⟨oa, c, oaf, cf, rfl, hf⟩ := h.at'
 have hlen : (Ex.bin .call a b).tree.parts.length = 3 := rfl
 obtain ⟨xa, rfl⟩ : ∃ xa, oa = some xa := ⟨_, Cq hf.nil (show 0 < 3 by decide)⟩
 have hhd : ((Ex.bin .call a b).tree.pt 0).atom = [99, 97, 108, 108] := rfl
 have hle : HLe I I := .refl _
 have hok0 := hok
 simp only [Ex.ok, Bool.and_eq_true, decide_eq_true_eq] at hok
 refine Ai (by simp) ?_; refine Se rfl ?_; refine Cd rfl rfl .free rfl ?_; intro b1; refine Ax .free rfl ?_; intro b2; refine Oa rfl (Aa (Se rfl (Oh rfl ?_))); refine A6 rfl .free rfl ?_
 first | refine A3 rfl rfl 0 rfl .free rfl ?_ | refine A4 rfl rfl 0 rfl .free rfl ?_
 refine Av rfl .free rfl ?_; refine Dk rfl .free rfl ?_; refine C3 (t := 15) (v' := .string (str [99, 97, 108, 108])) rfl rfl ?_; refine Oa rfl (Aa (Se rfl (Oh rfl ?_))); refine A6 rfl .free rfl ?_; refine Oa rfl (Aa (Se rfl (Om rfl ?_)))
 first | refine A3 rfl rfl 1 rfl .free rfl ?_ | refine A4 rfl rfl 1 rfl .free rfl ?_
 refine Av rfl .free rfl ?_; refine Dk rfl .free rfl ?_; refine Ca rfl (C8 ((Ex.bin .call a b).tree.pt 1).atom (hf.rp 1 (show 1 < 3 by decide)).atom_le _ _) ?_; rintro _ _ _ _ ⟨rfl, rfl, rfl⟩; refine Om rfl (Oe rfl rfl (Oe rfl rfl (Oa rfl (Oa rfl (Aa (Se rfl (Om rfl (Om rfl (On rfl ?_))))))))); refine Or rfl rfl rfl ?_; refine C3 (t := 30) (v' := .int .i64 ((2 : Nat))) rfl (by rfl) ?_
 first | refine A3 rfl rfl _ rfl .free rfl ?_ | refine A4 rfl rfl _ rfl .free rfl ?_
 refine Av rfl .free rfl ?_; refine Dk rfl .free rfl ?_; refine Ca rfl (C8 ((Ex.bin .call a b).tree.pt 2).atom (hf.rp 2 (show 2 < 3 by decide)).atom_le _ _) ?_; rintro _ _ _ _ ⟨rfl, rfl, rfl⟩; refine Om rfl (Oe rfl rfl (Oe rfl rfl (Oa rfl (Oa rfl (Aa (Ab (Se rfl (Om rfl (Aa (Aj (Ab (Se rfl (Od rfl rfl rfl (Oa rfl (Aa ?_)))))))))))))))
 first | refine Sf rfl (by decide) ?_ | refine Ap (by simp [look, Ba, *]) ?_
 refine Se rfl (Od rfl rfl rfl (Oa rfl (Aa ?_)))
 first | refine Sf rfl (by decide) ?_ | refine Ap (by simp [look, Ba, *]) ?_
 refine Ah rfl (Od rfl rfl rfl (Oa rfl (Aa ?_)))
 first | refine Sf rfl (by decide) ?_ | refine Ap (by simp [look, Ba, *]) ?_
 refine Se rfl (Od rfl rfl rfl (Oa rfl (Aa ?_)))
 first | refine Sf rfl (by decide) ?_ | refine Ap (by simp [look, Ba, *]) ?_
 refine Se rfl (Od rfl rfl rfl (Oa rfl (Aa ?_)))
 first | refine Sf rfl (by decide) ?_ | refine Ap (by simp [look, Ba, *]) ?_
 refine Se rfl (Od rfl rfl rfl (Oa rfl (Aa ?_)))
 first | refine St rfl (rfl) ?_ | refine Bj (by simp [look, Ba, *]) ?_
 refine Ab (Se rfl (Om rfl ?_))
 first | refine A3 rfl rfl 1 rfl .free rfl ?_ | refine A4 rfl rfl 1 rfl .free rfl ?_
 refine Du rfl .free rfl ?_; refine Ca rfl (P5 (hf.as 1 a.tree (by omega) rfl) (Ex.tree_good hok.1).1 _) ?_; rintro _ _ _ _ ⟨rfl, rfl, rfl⟩; refine Od rfl rfl rfl (Aa ?_); refine Ar rfl ?_ ?_
 ·intro c6
  try simp only [nb] at c6
  have hno : (Ex.bin .call a b).turn = none := by
   cases hty : (Ex.bin .call a b).turn with
   | none => rfl
   | some e' =>
    rcases Ew hty with ⟨f, y, s, t, g, ho, rfl, rfl⟩ | ⟨p, q, ho, rfl, rfl, rfl⟩
    ·exact absurd rfl c6
    ·cases ho
  refine Se rfl ?_; refine Az rfl .free rfl ?_; refine Bk rfl rfl rfl rfl .free ?_; refine Oa rfl (Aa ?_); refine Ad (.c rfl (.tmp rfl .nil)) ?_
  exact ⟨_, L, hle, Ay, SP.same hf.rep hno⟩
 intro c6
 try simp only [nb] at c6
 obtain ⟨f, y, s, t, g, rfl⟩ := Ex.of_fun (show a.tree.head = Dh from c6)
 have hra := hf.as 1 (Ex.fn f y s t g).tree (by omega) rfl
 obtain ⟨oa2, c2, oaf2, cf2, he2, hf2⟩ := hra.at'
 simp only [List.cons.injEq, Value.slice.injEq, and_true, true_and] at he2
 obtain ⟨rfl, rfl⟩ := he2; obtain ⟨xa2, hxa2⟩ : ∃ x, oaf 1 = some x := ⟨_, Cq hf2.nil (show 0 < 6 by decide)⟩
 have hok2 := hok.1
 simp only [Ex.ok, Bool.and_eq_true, decide_eq_true_eq] at hok2
 have hl2 : (Ex.fn f y s t g).tree.parts.length = 6 := rfl
 refine Af (Se rfl (Om rfl ?_))
 first | refine A3 rfl rfl 1 rfl .free rfl ?_ | refine A4 rfl rfl 1 rfl .free rfl ?_
 refine Av rfl .free rfl ?_; refine Dk rfl .free rfl ?_; refine Oa rfl (Aa (Ab ?_)); refine B8 21 rfl rfl ?_; refine Da 0 rfl (Ae rfl) ?_
 first | refine Da 1 rfl (A1 rfl rfl 5 rfl) ?_ | refine Da 1 rfl (A2 rfl rfl 5 rfl) ?_
 refine Dt 2 [19] rfl (A8 rfl) ?_; refine Da 3 rfl (Ae rfl) ?_
 first | refine Da 4 rfl (A1 rfl rfl 1 rfl) ?_ | refine Da 4 rfl (A2 rfl rfl 1 rfl) ?_
 refine Da 5 rfl (A9 rfl) ?_; refine Dt 6 [19] rfl (Hd rfl) ?_; refine Da 7 rfl (Ae rfl) ?_
 first | refine Da 8 rfl (A1 rfl rfl 1 rfl) ?_ | refine Da 8 rfl (A2 rfl rfl 1 rfl) ?_
 refine Dt 9 [19] rfl (A8 rfl) ?_; refine Da 11 rfl (Ae rfl) ?_
 first | refine Da 12 rfl (A1 rfl rfl 2 rfl) ?_ | refine Da 12 rfl (A2 rfl rfl 2 rfl) ?_
 refine Da 13 rfl (A9 rfl) ?_; refine Dt 14 [19] rfl (Hd rfl) ?_; refine Da 15 rfl (Ae rfl) ?_
 first | refine Da 16 rfl (A1 rfl rfl 2 rfl) ?_ | refine Da 16 rfl (A2 rfl rfl 2 rfl) ?_
 refine Dt 17 [19] rfl (A8 rfl) ?_; refine Dc 10 rfl rfl (S1 _ (Nat.lt_succ_self _) (hf2.as 5 g.tree (by omega) rfl) hok2.2 f hok2.1.1.1.1.1 hra _) ?_; rintro _ J2 _ e2 ⟨cs2, rfl, hr2, rfl⟩; obtain ⟨o2, k2, _, rfl, -⟩ := hr2.open
 have hf := hf.mono e2
 have hf2 := hf2.mono e2
 have hle := hle.trans e2
 refine Hx ?_; refine Dc 18 rfl rfl (S1 _ (Nat.lt_succ_self _) hr2 (Ex.put_ok hok2.2 hok.1) y hok2.1.1.1.1.2 (hf.as 2 b.tree (by omega) rfl) _) ?_; rintro _ J3 _ e3 ⟨cs3, rfl, hr3, rfl⟩; obtain ⟨o3, k3, _, rfl, -⟩ := hr3.open
 have hle := hle.trans e3
 have e23 := e2.trans e3
 refine Hx ?_; refine Dx 19 rfl rfl rfl rfl ?_; refine Db 20 rfl (Aw rfl) ?_; refine Ao (by kernel_rfl) ?_; refine Ad (.c rfl (.tmp rfl .nil)) ?_; refine ⟨_, L, hle, Ay, ((g.put f (.fn f y s t g)).put y b).tree, _, rfl, hr3, fun e' he' => ?_, rfl⟩; obtain rfl := Option.some.inj he'
 rfl
set_option maxHeartbeats 1000000 in
theorem Wk {a b : Ex} {I : Heap} {cs : List Value} (h : Rep I (Ex.bin .pair a b).tree cs) (hok : (Ex.bin .pair a b).ok = true) (L : Bl) :
  Fun Tryz.prog 118 [.agg cs.toArray] I L (SP (Ex.bin .pair a b).turn L) := by
 obtain ⟨oa, c, oaf, cf, rfl, hf⟩ := h.at'
 have hlen : (Ex.bin .pair a b).tree.parts.length = 3 := rfl
 obtain ⟨xa, rfl⟩ : ∃ xa, oa = some xa := ⟨_, Cq hf.nil (show 0 < 3 by decide)⟩
 have hhd : ((Ex.bin .pair a b).tree.pt 0).atom = [112, 97, 105, 114] := rfl
 have hle : HLe I I := .refl _
 have hok0 := hok
 simp only [Ex.ok, Bool.and_eq_true, decide_eq_true_eq] at hok
 refine Ai (by simp) ?_; refine Se rfl ?_; refine Cd rfl rfl .free rfl ?_; intro b1; refine Ax .free rfl ?_; intro b2; refine Oa rfl (Aa (Se rfl (Oh rfl ?_))); refine A6 rfl .free rfl ?_
 first | refine A3 rfl rfl 0 rfl .free rfl ?_ | refine A4 rfl rfl 0 rfl .free rfl ?_
 refine Av rfl .free rfl ?_; refine Dk rfl .free rfl ?_; refine C3 (t := 15) (v' := .string (str [112, 97, 105, 114])) rfl rfl ?_; refine Oa rfl (Aa (Se rfl (Oh rfl ?_))); refine A6 rfl .free rfl ?_; refine Oa rfl (Aa (Se rfl (Om rfl ?_)))
 first | refine A3 rfl rfl 1 rfl .free rfl ?_ | refine A4 rfl rfl 1 rfl .free rfl ?_
 refine Av rfl .free rfl ?_; refine Dk rfl .free rfl ?_; refine Ca rfl (C8 ((Ex.bin .pair a b).tree.pt 1).atom (hf.rp 1 (show 1 < 3 by decide)).atom_le _ _) ?_; rintro _ _ _ _ ⟨rfl, rfl, rfl⟩; refine Om rfl (Oe rfl rfl (Oe rfl rfl (Oa rfl (Oa rfl (Aa (Se rfl (Om rfl (Om rfl (On rfl ?_))))))))); refine Or rfl rfl rfl ?_; refine C3 (t := 30) (v' := .int .i64 ((2 : Nat))) rfl (by rfl) ?_
 first | refine A3 rfl rfl _ rfl .free rfl ?_ | refine A4 rfl rfl _ rfl .free rfl ?_
 refine Av rfl .free rfl ?_; refine Dk rfl .free rfl ?_; refine Ca rfl (C8 ((Ex.bin .pair a b).tree.pt 2).atom (hf.rp 2 (show 2 < 3 by decide)).atom_le _ _) ?_; rintro _ _ _ _ ⟨rfl, rfl, rfl⟩; refine Om rfl (Oe rfl rfl (Oe rfl rfl (Oa rfl (Oa rfl (Aa (Ab (Se rfl (Om rfl (Aa (Aj (Ab (Se rfl (Od rfl rfl rfl (Oa rfl (Aa ?_)))))))))))))))
 first | refine Sf rfl (by decide) ?_ | refine Ap (by simp [look, Ba, *]) ?_
 refine Se rfl (Od rfl rfl rfl (Oa rfl (Aa ?_)))
 first | refine Sf rfl (by decide) ?_ | refine Ap (by simp [look, Ba, *]) ?_
 refine Ah rfl (Od rfl rfl rfl (Oa rfl (Aa ?_)))
 first | refine Sf rfl (by decide) ?_ | refine Ap (by simp [look, Ba, *]) ?_
 refine Se rfl (Od rfl rfl rfl (Oa rfl (Aa ?_)))
 first | refine Sf rfl (by decide) ?_ | refine Ap (by simp [look, Ba, *]) ?_
 refine Se rfl (Od rfl rfl rfl (Oa rfl (Aa ?_)))
 first | refine Sf rfl (by decide) ?_ | refine Ap (by simp [look, Ba, *]) ?_
 refine Se rfl (Od rfl rfl rfl (Oa rfl (Aa ?_)))
 first | refine Sf rfl (by decide) ?_ | refine Ap (by simp [look, Ba, *]) ?_
 refine Ab (Se rfl (Od rfl rfl rfl (Oa rfl (Aa ?_))))
 first | refine Sf rfl (by decide) ?_ | refine Ap (by simp [look, Ba, *]) ?_
 refine Ah rfl (Od rfl rfl rfl (Oa rfl (Aa ?_)))
 first | refine Sf rfl (by decide) ?_ | refine Ap (by simp [look, Ba, *]) ?_
 refine Af (Al (Se rfl ?_)); refine Az rfl .free rfl ?_; refine Bk rfl rfl rfl rfl .free ?_; refine Oa rfl (Aa ?_); refine Ad (.c rfl (.tmp rfl .nil)) ?_
 have hno : (Ex.bin .pair a b).turn = none := by
  first
   | rfl
   | (cases a <;> first | rfl | (cases b <;> rfl))
 exact ⟨_, L, hle, Ay, SP.same hf.rep hno⟩
set_option maxHeartbeats 1000000 in
theorem Yq {a b d : Ex} {I : Heap} {cs : List Value} (h : Rep I (Ex.ite a b d).tree cs) (hok : (Ex.ite a b d).ok = true) (L : Bl) :
  Fun Tryz.prog 118 [.agg cs.toArray] I L (SP (Ex.ite a b d).turn L) := by
 obtain ⟨oa, c, oaf, cf, rfl, hf⟩ := h.at'
 have hlen : (Ex.ite a b d).tree.parts.length = 4 := rfl
 obtain ⟨xa, rfl⟩ : ∃ xa, oa = some xa := ⟨_, Cq hf.nil (show 0 < 4 by decide)⟩
 have hhd : ((Ex.ite a b d).tree.pt 0).atom = [105, 102] := rfl
 have hle : HLe I I := .refl _
 have hok0 := hok
 simp only [Ex.ok, Bool.and_eq_true, decide_eq_true_eq] at hok
 refine Ai (by simp) ?_; refine Se rfl ?_; refine Cd rfl rfl .free rfl ?_; intro b1; refine Ax .free rfl ?_; intro b2; refine Oa rfl (Aa (Se rfl (Oh rfl ?_))); refine A6 rfl .free rfl ?_
 first | refine A3 rfl rfl 0 rfl .free rfl ?_ | refine A4 rfl rfl 0 rfl .free rfl ?_
 refine Av rfl .free rfl ?_; refine Dk rfl .free rfl ?_; refine C3 (t := 15) (v' := .string (str [105, 102])) rfl rfl ?_; refine Oa rfl (Aa (Se rfl (Oh rfl ?_))); refine A6 rfl .free rfl ?_; refine Oa rfl (Aa (Se rfl (Om rfl ?_)))
 first | refine A3 rfl rfl 1 rfl .free rfl ?_ | refine A4 rfl rfl 1 rfl .free rfl ?_
 refine Av rfl .free rfl ?_; refine Dk rfl .free rfl ?_; refine Ca rfl (C8 ((Ex.ite a b d).tree.pt 1).atom (hf.rp 1 (show 1 < 4 by decide)).atom_le _ _) ?_; rintro _ _ _ _ ⟨rfl, rfl, rfl⟩; refine Om rfl (Oe rfl rfl (Oe rfl rfl (Oa rfl (Oa rfl (Aa (Se rfl (Om rfl (Om rfl (On rfl ?_))))))))); refine Or rfl rfl rfl ?_; refine C3 (t := 30) (v' := .int .i64 ((3 : Nat))) rfl (by rfl) ?_
 first | refine A3 rfl rfl _ rfl .free rfl ?_ | refine A4 rfl rfl _ rfl .free rfl ?_
 refine Av rfl .free rfl ?_; refine Dk rfl .free rfl ?_; refine Ca rfl (C8 ((Ex.ite a b d).tree.pt 3).atom (hf.rp 3 (show 3 < 4 by decide)).atom_le _ _) ?_; rintro _ _ _ _ ⟨rfl, rfl, rfl⟩; refine Om rfl (Oe rfl rfl (Oe rfl rfl (Oa rfl (Oa rfl (Aa (Ab (Se rfl (Om rfl (Aa (Aj (Ab (Se rfl (Od rfl rfl rfl (Oa rfl (Aa ?_)))))))))))))))
 first | refine Sf rfl (by decide) ?_ | refine Ap (by simp [look, Ba, *]) ?_
 refine Se rfl (Od rfl rfl rfl (Oa rfl (Aa ?_)))
 first | refine Sf rfl (by decide) ?_ | refine Ap (by simp [look, Ba, *]) ?_
 refine Ah rfl (Od rfl rfl rfl (Oa rfl (Aa ?_)))
 first | refine Sf rfl (by decide) ?_ | refine Ap (by simp [look, Ba, *]) ?_
 refine Se rfl (Od rfl rfl rfl (Oa rfl (Aa ?_)))
 first | refine St rfl (rfl) ?_ | refine Bj (by simp [look, Ba, *]) ?_
 refine Ab ?_; refine B8 11 rfl rfl ?_; refine Da 0 rfl (Ae rfl) ?_; refine Da 1 rfl (Ae rfl) ?_
 first | refine Da 2 rfl (A1 rfl rfl 2 rfl) ?_ | refine Da 2 rfl (A2 rfl rfl 2 rfl) ?_
 refine Dt 3 [9] rfl (A8 rfl) ?_; refine Da 4 rfl (Ae rfl) ?_
 first | refine Da 5 rfl (A1 rfl rfl 3 rfl) ?_ | refine Da 5 rfl (A2 rfl rfl 3 rfl) ?_
 refine Dt 6 [9] rfl (A8 rfl) ?_; refine Da 8 rfl (Ae rfl) ?_; refine Dc 7 rfl rfl (Aai (Hq a.tree.atom) (hf.as 2 b.tree (by omega) rfl) (hf.as 3 d.tree (by omega) rfl) _) ?_; rintro _ J1 _ e1 ⟨ds, rfl, hr, rfl⟩; obtain ⟨o1, k1, _, rfl, -⟩ := hr.open; refine Hx ?_; refine Dx 9 rfl rfl rfl rfl ?_; refine Db 10 rfl (Aw rfl) ?_; refine Ao (by kernel_rfl) ?_; refine Ad (.c rfl (.tmp rfl .nil)) ?_; refine ⟨_, L, hle.trans e1, Ay, (if Hq a.tree.atom = 0 then b.tree else d.tree), _, ?_, hr, fun e' he' => ?_, rfl⟩
 ·have hi : (Ex.ite a b d).turn.isSome = Bt a.tree.atom := by
   cases ha : Bt a.tree.atom with
   | true => obtain ⟨p, rfl⟩ := Kz ha hok.1.1; rfl
   | false =>
    cases hty : (Ex.ite a b d).turn with
    | none => rfl
    | some e' =>
     obtain ⟨p, rfl, _⟩ := Jc hty; rw [show Bt (Ex.num p).tree.atom = true from hok.1.1] at ha; cases ha
  rw [hi]; rfl
 ·obtain ⟨p, rfl, rfl⟩ := Jc he'
  have hp : Bt p = true := hok.1.1
  have h1 : Hq (Ex.num p).tree.atom = Cc p := Kk hp
  rw [h1]
  by_cases hz : p = [48]
  ·rw [if_pos hz, if_pos ((O0 hp).2 hz)]
  ·rw [if_neg hz, if_neg (fun h => hz ((O0 hp).1 h))]
set_option maxHeartbeats 1000000 in
theorem Aap {z : Au} {a b : Ex} {I : Heap} {cs : List Value} (h : Rep I (Ex.lt z a b).tree cs) (hok : (Ex.lt z a b).ok = true) (L : Bl) :
  Fun Tryz.prog 118 [.agg cs.toArray] I L (SP (Ex.lt z a b).turn L) := by
 obtain ⟨oa, c, oaf, cf, rfl, hf⟩ := h.at'
 have hlen : (Ex.lt z a b).tree.parts.length = 4 := rfl
 obtain ⟨xa, rfl⟩ : ∃ xa, oa = some xa := ⟨_, Cq hf.nil (show 0 < 4 by decide)⟩
 have hhd : ((Ex.lt z a b).tree.pt 0).atom = [108, 101, 116] := rfl
 have hle : HLe I I := .refl _
 have hok0 := hok
 simp only [Ex.ok, Bool.and_eq_true, decide_eq_true_eq] at hok
 refine Ai (by simp) ?_; refine Se rfl ?_; refine Cd rfl rfl .free rfl ?_; intro b1; refine Ax .free rfl ?_; intro b2; refine Oa rfl (Aa (Se rfl (Oh rfl ?_))); refine A6 rfl .free rfl ?_
 first | refine A3 rfl rfl 0 rfl .free rfl ?_ | refine A4 rfl rfl 0 rfl .free rfl ?_
 refine Av rfl .free rfl ?_; refine Dk rfl .free rfl ?_; refine C3 (t := 15) (v' := .string (str [108, 101, 116])) rfl rfl ?_; refine Oa rfl (Aa (Se rfl (Oh rfl ?_))); refine A6 rfl .free rfl ?_; refine Oa rfl (Aa (Se rfl (Om rfl ?_)))
 first | refine A3 rfl rfl 1 rfl .free rfl ?_ | refine A4 rfl rfl 1 rfl .free rfl ?_
 refine Av rfl .free rfl ?_; refine Dk rfl .free rfl ?_; refine Ca rfl (C8 ((Ex.lt z a b).tree.pt 1).atom (hf.rp 1 (show 1 < 4 by decide)).atom_le _ _) ?_; rintro _ _ _ _ ⟨rfl, rfl, rfl⟩; refine Om rfl (Oe rfl rfl (Oe rfl rfl (Oa rfl (Oa rfl (Aa (Se rfl (Om rfl (Om rfl (On rfl ?_))))))))); refine Or rfl rfl rfl ?_; refine C3 (t := 30) (v' := .int .i64 ((3 : Nat))) rfl (by rfl) ?_
 first | refine A3 rfl rfl _ rfl .free rfl ?_ | refine A4 rfl rfl _ rfl .free rfl ?_
 refine Av rfl .free rfl ?_; refine Dk rfl .free rfl ?_; refine Ca rfl (C8 ((Ex.lt z a b).tree.pt 3).atom (hf.rp 3 (show 3 < 4 by decide)).atom_le _ _) ?_; rintro _ _ _ _ ⟨rfl, rfl, rfl⟩; refine Om rfl (Oe rfl rfl (Oe rfl rfl (Oa rfl (Oa rfl (Aa (Ab (Se rfl (Om rfl (Aa (Aj (Ab (Se rfl (Od rfl rfl rfl (Oa rfl (Aa ?_)))))))))))))))
 first | refine Sf rfl (by decide) ?_ | refine Ap (by simp [look, Ba, *]) ?_
 refine Se rfl (Od rfl rfl rfl (Oa rfl (Aa ?_)))
 first | refine Sf rfl (by decide) ?_ | refine Ap (by simp [look, Ba, *]) ?_
 refine Ah rfl (Od rfl rfl rfl (Oa rfl (Aa ?_)))
 first | refine Sf rfl (by decide) ?_ | refine Ap (by simp [look, Ba, *]) ?_
 refine Se rfl (Od rfl rfl rfl (Oa rfl (Aa ?_)))
 first | refine Sf rfl (by decide) ?_ | refine Ap (by simp [look, Ba, *]) ?_
 refine Se rfl (Od rfl rfl rfl (Oa rfl (Aa ?_)))
 first | refine St rfl (rfl) ?_ | refine Bj (by simp [look, Ba, *]) ?_
 refine Ab ?_; refine B8 13 rfl rfl ?_; refine Da 0 rfl (Ae rfl) ?_
 first | refine Da 1 rfl (A1 rfl rfl 3 rfl) ?_ | refine Da 1 rfl (A2 rfl rfl 3 rfl) ?_
 refine Dt 2 [11] rfl (A8 rfl) ?_; refine Da 3 rfl (Ae rfl) ?_
 first | refine Da 4 rfl (A1 rfl rfl 1 rfl) ?_ | refine Da 4 rfl (A2 rfl rfl 1 rfl) ?_
 refine Da 5 rfl (A9 rfl) ?_; refine Dt 6 [11] rfl (Hd rfl) ?_; refine Da 7 rfl (Ae rfl) ?_
 first | refine Da 8 rfl (A1 rfl rfl 2 rfl) ?_ | refine Da 8 rfl (A2 rfl rfl 2 rfl) ?_
 refine Dt 9 [11] rfl (A8 rfl) ?_; refine Dc 10 rfl rfl (S1 _ (Nat.lt_succ_self _) (hf.as 3 b.tree (by omega) rfl) hok.2 z hok.1.1 (hf.as 2 a.tree (by omega) rfl) _) ?_; rintro _ J2 _ e2 ⟨cs2, rfl, hr2, rfl⟩; obtain ⟨o2, k2, _, rfl, -⟩ := hr2.open
 have hle := hle.trans e2
 refine Hx ?_; refine Dx 11 rfl rfl rfl rfl ?_; refine Db 12 rfl (Aw rfl) ?_; refine Ao (by kernel_rfl) ?_; refine Ad (.c rfl (.tmp rfl .nil)) ?_; refine ⟨_, L, hle, Ay, (b.put z a).tree, _, rfl, hr2, fun e' he' => ?_, rfl⟩; obtain rfl := Option.some.inj he'
 rfl
set_option maxHeartbeats 1000000 in
theorem Aao {g z : Au} {s t : Ty} {b : Ex} {I : Heap} {cs : List Value} (h : Rep I (Ex.fn g z s t b).tree cs) (hok : (Ex.fn g z s t b).ok = true) (L : Bl) :
  Fun Tryz.prog 118 [.agg cs.toArray] I L (SP (Ex.fn g z s t b).turn L) := by
 obtain ⟨oa, c, oaf, cf, rfl, hf⟩ := h.at'
 have hlen : (Ex.fn g z s t b).tree.parts.length = 6 := rfl
 obtain ⟨xa, rfl⟩ : ∃ xa, oa = some xa := ⟨_, Cq hf.nil (show 0 < 6 by decide)⟩
 have hhd : ((Ex.fn g z s t b).tree.pt 0).atom = [102, 117, 110] := rfl
 have hle : HLe I I := .refl _
 have hok0 := hok
 simp only [Ex.ok, Bool.and_eq_true, decide_eq_true_eq] at hok
 refine Ai (by simp) ?_; refine Se rfl ?_; refine Cd rfl rfl .free rfl ?_; intro b1; refine Ax .free rfl ?_; intro b2; refine Oa rfl (Aa (Se rfl (Oh rfl ?_))); refine A6 rfl .free rfl ?_
 first | refine A3 rfl rfl 0 rfl .free rfl ?_ | refine A4 rfl rfl 0 rfl .free rfl ?_
 refine Av rfl .free rfl ?_; refine Dk rfl .free rfl ?_; refine C3 (t := 15) (v' := .string (str [102, 117, 110])) rfl rfl ?_; refine Oa rfl (Aa (Se rfl (Oh rfl ?_))); refine A6 rfl .free rfl ?_; refine Oa rfl (Aa (Se rfl (Om rfl ?_)))
 first | refine A3 rfl rfl 1 rfl .free rfl ?_ | refine A4 rfl rfl 1 rfl .free rfl ?_
 refine Av rfl .free rfl ?_; refine Dk rfl .free rfl ?_; refine Ca rfl (C8 ((Ex.fn g z s t b).tree.pt 1).atom (hf.rp 1 (show 1 < 6 by decide)).atom_le _ _) ?_; rintro _ _ _ _ ⟨rfl, rfl, rfl⟩; refine Om rfl (Oe rfl rfl (Oe rfl rfl (Oa rfl (Oa rfl (Aa (Se rfl (Om rfl (Om rfl (On rfl ?_))))))))); refine Or rfl rfl rfl ?_; refine C3 (t := 30) (v' := .int .i64 ((5 : Nat))) rfl (by rfl) ?_
 first | refine A3 rfl rfl _ rfl .free rfl ?_ | refine A4 rfl rfl _ rfl .free rfl ?_
 refine Av rfl .free rfl ?_; refine Dk rfl .free rfl ?_; refine Ca rfl (C8 ((Ex.fn g z s t b).tree.pt 5).atom (hf.rp 5 (show 5 < 6 by decide)).atom_le _ _) ?_; rintro _ _ _ _ ⟨rfl, rfl, rfl⟩; refine Om rfl (Oe rfl rfl (Oe rfl rfl (Oa rfl (Oa rfl (Aa (Ab (Se rfl (Om rfl (Aa (Aj (Ab (Se rfl (Od rfl rfl rfl (Oa rfl (Aa ?_)))))))))))))))
 first | refine Sf rfl (by decide) ?_ | refine Ap (by simp [look, Ba, *]) ?_
 refine Se rfl (Od rfl rfl rfl (Oa rfl (Aa ?_)))
 first | refine Sf rfl (by decide) ?_ | refine Ap (by simp [look, Ba, *]) ?_
 refine Ah rfl (Od rfl rfl rfl (Oa rfl (Aa ?_)))
 first | refine Sf rfl (by decide) ?_ | refine Ap (by simp [look, Ba, *]) ?_
 refine Se rfl (Od rfl rfl rfl (Oa rfl (Aa ?_)))
 first | refine Sf rfl (by decide) ?_ | refine Ap (by simp [look, Ba, *]) ?_
 refine Se rfl (Od rfl rfl rfl (Oa rfl (Aa ?_)))
 first | refine Sf rfl (by decide) ?_ | refine Ap (by simp [look, Ba, *]) ?_
 refine Se rfl (Od rfl rfl rfl (Oa rfl (Aa ?_)))
 first | refine Sf rfl (by decide) ?_ | refine Ap (by simp [look, Ba, *]) ?_
 refine Ab (Se rfl (Od rfl rfl rfl (Oa rfl (Aa ?_))))
 first | refine Sf rfl (by decide) ?_ | refine Ap (by simp [look, Ba, *]) ?_
 refine Ah rfl (Od rfl rfl rfl (Oa rfl (Aa ?_)))
 first | refine Sf rfl (by decide) ?_ | refine Ap (by simp [look, Ba, *]) ?_
 refine Af (Al (Se rfl ?_)); refine Az rfl .free rfl ?_; refine Bk rfl rfl rfl rfl .free ?_; refine Oa rfl (Aa ?_); refine Ad (.c rfl (.tmp rfl .nil)) ?_
 have hno : (Ex.fn g z s t b).turn = none := by
  first
   | rfl
   | (cases a <;> first | rfl | (cases b <;> rfl))
 exact ⟨_, L, hle, Ay, SP.same hf.rep hno⟩
set_option maxHeartbeats 1000000 in
theorem Yp {a : Ex} {I : Heap} {cs : List Value} (h : Rep I (Ex.un .fst a).tree cs) (hok : (Ex.un .fst a).ok = true) (L : Bl) :
  Fun Tryz.prog 118 [.agg cs.toArray] I L (SP (Ex.un .fst a).turn L) := by
 obtain ⟨oa, c, oaf, cf, rfl, hf⟩ := h.at'
 have hlen : (Ex.un .fst a).tree.parts.length = 2 := rfl
 obtain ⟨xa, rfl⟩ : ∃ xa, oa = some xa := ⟨_, Cq hf.nil (show 0 < 2 by decide)⟩
 have hhd : ((Ex.un .fst a).tree.pt 0).atom = [102, 115, 116] := rfl
 have hle : HLe I I := .refl _
 have hok0 := hok
 simp only [Ex.ok, Bool.and_eq_true, decide_eq_true_eq] at hok
 refine Ai (by simp) ?_; refine Se rfl ?_; refine Cd rfl rfl .free rfl ?_; intro b1; refine Ax .free rfl ?_; intro b2; refine Oa rfl (Aa (Se rfl (Oh rfl ?_))); refine A6 rfl .free rfl ?_
 first | refine A3 rfl rfl 0 rfl .free rfl ?_ | refine A4 rfl rfl 0 rfl .free rfl ?_
 refine Av rfl .free rfl ?_; refine Dk rfl .free rfl ?_; refine C3 (t := 15) (v' := .string (str [102, 115, 116])) rfl rfl ?_; refine Oa rfl (Aa (Se rfl (Oh rfl ?_))); refine A6 rfl .free rfl ?_; refine Oa rfl (Aa (Se rfl (Om rfl ?_)))
 first | refine A3 rfl rfl 1 rfl .free rfl ?_ | refine A4 rfl rfl 1 rfl .free rfl ?_
 refine Av rfl .free rfl ?_; refine Dk rfl .free rfl ?_; refine Ca rfl (C8 ((Ex.un .fst a).tree.pt 1).atom (hf.rp 1 (show 1 < 2 by decide)).atom_le _ _) ?_; rintro _ _ _ _ ⟨rfl, rfl, rfl⟩; refine Om rfl (Oe rfl rfl (Oe rfl rfl (Oa rfl (Oa rfl (Aa (Se rfl (Om rfl (Om rfl (On rfl ?_))))))))); refine Or rfl rfl rfl ?_; refine C3 (t := 30) (v' := .int .i64 ((1 : Nat))) rfl (by rfl) ?_
 first | refine A3 rfl rfl _ rfl .free rfl ?_ | refine A4 rfl rfl _ rfl .free rfl ?_
 refine Av rfl .free rfl ?_; refine Dk rfl .free rfl ?_; refine Ca rfl (C8 ((Ex.un .fst a).tree.pt 1).atom (hf.rp 1 (show 1 < 2 by decide)).atom_le _ _) ?_; rintro _ _ _ _ ⟨rfl, rfl, rfl⟩; refine Om rfl (Oe rfl rfl (Oe rfl rfl (Oa rfl (Oa rfl (Aa (Ab (Se rfl (Om rfl (Aa (Aj (Ab (Se rfl (Od rfl rfl rfl (Oa rfl (Aa ?_)))))))))))))))
 first | refine Sf rfl (by decide) ?_ | refine Ap (by simp [look, Ba, *]) ?_
 refine Se rfl (Od rfl rfl rfl (Oa rfl (Aa ?_)))
 first | refine Sf rfl (by decide) ?_ | refine Ap (by simp [look, Ba, *]) ?_
 refine Ah rfl (Od rfl rfl rfl (Oa rfl (Aa ?_)))
 first | refine Sf rfl (by decide) ?_ | refine Ap (by simp [look, Ba, *]) ?_
 refine Se rfl (Od rfl rfl rfl (Oa rfl (Aa ?_)))
 first | refine Sf rfl (by decide) ?_ | refine Ap (by simp [look, Ba, *]) ?_
 refine Se rfl (Od rfl rfl rfl (Oa rfl (Aa ?_)))
 first | refine Sf rfl (by decide) ?_ | refine Ap (by simp [look, Ba, *]) ?_
 refine Se rfl (Od rfl rfl rfl (Oa rfl (Aa ?_)))
 first | refine Sf rfl (by decide) ?_ | refine Ap (by simp [look, Ba, *]) ?_
 refine Ab (Se rfl (Od rfl rfl rfl (Oa rfl (Aa ?_))))
 first | refine St rfl (rfl) ?_ | refine Bj (by simp [look, Ba, *]) ?_
 refine Af ?_
 first | refine St rfl (rfl) ?_ | refine Bj (by simp [look, Ba, *]) ?_
 refine Ab (Se rfl (Om rfl ?_))
 first | refine A3 rfl rfl 1 rfl .free rfl ?_ | refine A4 rfl rfl 1 rfl .free rfl ?_
 refine Du rfl .free rfl ?_; refine Ca rfl (P5 (hf.as 1 a.tree (by omega) rfl) (Ex.tree_good (e := a) hok).1 _) ?_; rintro _ _ _ _ ⟨rfl, rfl, rfl⟩; refine Od rfl rfl rfl (Aa ?_); refine Ar rfl ?_ ?_
 ·intro c9
  try simp only [nb] at c9
  have hno : (Ex.un .fst a).turn = none := by
   cases hty : (Ex.un .fst a).turn with
   | none => rfl
   | some e' =>
    obtain ⟨p, q, rfl, rfl⟩ := Jj hty
    exact absurd rfl c9
  refine Se rfl ?_; refine Az rfl .free rfl ?_; refine Bk rfl rfl rfl rfl .free ?_; refine Oa rfl (Aa ?_); refine Ad (.c rfl (.tmp rfl .nil)) ?_
  exact ⟨_, L, hle, Ay, SP.same hf.rep hno⟩
 intro c9
 try simp only [nb] at c9
 obtain ⟨p, q, rfl⟩ := Ex.of_pair (show a.tree.head = Df from c9)
 have hra := hf.as 1 (Ex.bin .pair p q).tree (by omega) rfl
 obtain ⟨oa2, c2, oaf2, cf2, he2, hf2⟩ := hra.at'
 simp only [List.cons.injEq, Value.slice.injEq, and_true, true_and] at he2
 obtain ⟨rfl, rfl⟩ := he2; obtain ⟨xa2, hxa2⟩ : ∃ x, oaf 1 = some x := ⟨_, Cq hf2.nil (show 0 < 3 by decide)⟩
 have hl2 : (Ex.bin .pair p q).tree.parts.length = 3 := rfl
 refine Af (Ab (Se rfl (Om rfl (Od rfl rfl rfl (Aa ?_)))))
 first | refine St rfl (rfl) ?_ | refine Bj (by simp [look, Ba, *]) ?_
 refine Se rfl (Om rfl ?_)
 first | refine A3 rfl rfl 1 rfl .free rfl ?_ | refine A4 rfl rfl 1 rfl .free rfl ?_
 refine Av rfl .free rfl ?_; refine Dk rfl .free rfl ?_
 first | refine A3 rfl rfl 1 rfl .free rfl ?_ | refine A4 rfl rfl 1 rfl .free rfl ?_
 refine Du rfl .free rfl ?_; refine Bk rfl rfl rfl rfl .free ?_; refine Oa rfl (Aa ?_); refine Ad (.c rfl (.tmp rfl .nil)) ?_; refine ⟨_, L, hle, Ay, p.tree, _, rfl, hf2.as 1 p.tree (by omega) rfl, fun e' he' => ?_, rfl⟩; obtain rfl := Option.some.inj he'
 rfl
set_option maxHeartbeats 1000000 in
theorem Ys {a : Ex} {I : Heap} {cs : List Value} (h : Rep I (Ex.un .snd a).tree cs) (hok : (Ex.un .snd a).ok = true) (L : Bl) :
  Fun Tryz.prog 118 [.agg cs.toArray] I L (SP (Ex.un .snd a).turn L) := by
 obtain ⟨oa, c, oaf, cf, rfl, hf⟩ := h.at'
 have hlen : (Ex.un .snd a).tree.parts.length = 2 := rfl
 obtain ⟨xa, rfl⟩ : ∃ xa, oa = some xa := ⟨_, Cq hf.nil (show 0 < 2 by decide)⟩
 have hhd : ((Ex.un .snd a).tree.pt 0).atom = [115, 110, 100] := rfl
 have hle : HLe I I := .refl _
 have hok0 := hok
 simp only [Ex.ok, Bool.and_eq_true, decide_eq_true_eq] at hok
 refine Ai (by simp) ?_; refine Se rfl ?_; refine Cd rfl rfl .free rfl ?_; intro b1; refine Ax .free rfl ?_; intro b2; refine Oa rfl (Aa (Se rfl (Oh rfl ?_))); refine A6 rfl .free rfl ?_
 first | refine A3 rfl rfl 0 rfl .free rfl ?_ | refine A4 rfl rfl 0 rfl .free rfl ?_
 refine Av rfl .free rfl ?_; refine Dk rfl .free rfl ?_; refine C3 (t := 15) (v' := .string (str [115, 110, 100])) rfl rfl ?_; refine Oa rfl (Aa (Se rfl (Oh rfl ?_))); refine A6 rfl .free rfl ?_; refine Oa rfl (Aa (Se rfl (Om rfl ?_)))
 first | refine A3 rfl rfl 1 rfl .free rfl ?_ | refine A4 rfl rfl 1 rfl .free rfl ?_
 refine Av rfl .free rfl ?_; refine Dk rfl .free rfl ?_; refine Ca rfl (C8 ((Ex.un .snd a).tree.pt 1).atom (hf.rp 1 (show 1 < 2 by decide)).atom_le _ _) ?_; rintro _ _ _ _ ⟨rfl, rfl, rfl⟩; refine Om rfl (Oe rfl rfl (Oe rfl rfl (Oa rfl (Oa rfl (Aa (Se rfl (Om rfl (Om rfl (On rfl ?_))))))))); refine Or rfl rfl rfl ?_; refine C3 (t := 30) (v' := .int .i64 ((1 : Nat))) rfl (by rfl) ?_
 first | refine A3 rfl rfl _ rfl .free rfl ?_ | refine A4 rfl rfl _ rfl .free rfl ?_
 refine Av rfl .free rfl ?_; refine Dk rfl .free rfl ?_; refine Ca rfl (C8 ((Ex.un .snd a).tree.pt 1).atom (hf.rp 1 (show 1 < 2 by decide)).atom_le _ _) ?_; rintro _ _ _ _ ⟨rfl, rfl, rfl⟩; refine Om rfl (Oe rfl rfl (Oe rfl rfl (Oa rfl (Oa rfl (Aa (Ab (Se rfl (Om rfl (Aa (Aj (Ab (Se rfl (Od rfl rfl rfl (Oa rfl (Aa ?_)))))))))))))))
 first | refine Sf rfl (by decide) ?_ | refine Ap (by simp [look, Ba, *]) ?_
 refine Se rfl (Od rfl rfl rfl (Oa rfl (Aa ?_)))
 first | refine Sf rfl (by decide) ?_ | refine Ap (by simp [look, Ba, *]) ?_
 refine Ah rfl (Od rfl rfl rfl (Oa rfl (Aa ?_)))
 first | refine Sf rfl (by decide) ?_ | refine Ap (by simp [look, Ba, *]) ?_
 refine Se rfl (Od rfl rfl rfl (Oa rfl (Aa ?_)))
 first | refine Sf rfl (by decide) ?_ | refine Ap (by simp [look, Ba, *]) ?_
 refine Se rfl (Od rfl rfl rfl (Oa rfl (Aa ?_)))
 first | refine Sf rfl (by decide) ?_ | refine Ap (by simp [look, Ba, *]) ?_
 refine Se rfl (Od rfl rfl rfl (Oa rfl (Aa ?_)))
 first | refine Sf rfl (by decide) ?_ | refine Ap (by simp [look, Ba, *]) ?_
 refine Ab (Se rfl (Od rfl rfl rfl (Oa rfl (Aa ?_))))
 first | refine Sf rfl (by decide) ?_ | refine Ap (by simp [look, Ba, *]) ?_
 refine Ah rfl (Od rfl rfl rfl (Oa rfl (Aa ?_)))
 first | refine St rfl (rfl) ?_ | refine Bj (by simp [look, Ba, *]) ?_
 refine Ab (Se rfl (Om rfl ?_))
 first | refine A3 rfl rfl 1 rfl .free rfl ?_ | refine A4 rfl rfl 1 rfl .free rfl ?_
 refine Du rfl .free rfl ?_; refine Ca rfl (P5 (hf.as 1 a.tree (by omega) rfl) (Ex.tree_good (e := a) hok).1 _) ?_; rintro _ _ _ _ ⟨rfl, rfl, rfl⟩; refine Od rfl rfl rfl (Aa ?_); refine Ar rfl ?_ ?_
 ·intro c9
  try simp only [nb] at c9
  have hno : (Ex.un .snd a).turn = none := by
   cases hty : (Ex.un .snd a).turn with
   | none => rfl
   | some e' =>
    obtain ⟨p, q, rfl, rfl⟩ := Jj hty
    exact absurd rfl c9
  refine Se rfl ?_; refine Az rfl .free rfl ?_; refine Bk rfl rfl rfl rfl .free ?_; refine Oa rfl (Aa ?_); refine Ad (.c rfl (.tmp rfl .nil)) ?_
  exact ⟨_, L, hle, Ay, SP.same hf.rep hno⟩
 intro c9
 try simp only [nb] at c9
 obtain ⟨p, q, rfl⟩ := Ex.of_pair (show a.tree.head = Df from c9)
 have hra := hf.as 1 (Ex.bin .pair p q).tree (by omega) rfl
 obtain ⟨oa2, c2, oaf2, cf2, he2, hf2⟩ := hra.at'
 simp only [List.cons.injEq, Value.slice.injEq, and_true, true_and] at he2
 obtain ⟨rfl, rfl⟩ := he2; obtain ⟨xa2, hxa2⟩ : ∃ x, oaf 1 = some x := ⟨_, Cq hf2.nil (show 0 < 3 by decide)⟩
 have hl2 : (Ex.bin .pair p q).tree.parts.length = 3 := rfl
 refine Af (Ab (Se rfl (Om rfl (Od rfl rfl rfl (Aa ?_)))))
 first | refine Sf rfl (by decide) ?_ | refine Ap (by simp [look, Ba, *]) ?_
 refine Af (Se rfl (Om rfl ?_))
 first | refine A3 rfl rfl 1 rfl .free rfl ?_ | refine A4 rfl rfl 1 rfl .free rfl ?_
 refine Av rfl .free rfl ?_; refine Dk rfl .free rfl ?_
 first | refine A3 rfl rfl 2 rfl .free rfl ?_ | refine A4 rfl rfl 2 rfl .free rfl ?_
 refine Du rfl .free rfl ?_; refine Bk rfl rfl rfl rfl .free ?_; refine Oa rfl (Aa ?_); refine Ad (.c rfl (.tmp rfl .nil)) ?_; refine ⟨_, L, hle, Ay, q.tree, _, rfl, hf2.as 2 q.tree (by omega) rfl, fun e' he' => ?_, rfl⟩; obtain rfl := Option.some.inj he'
 rfl
theorem Yo {o : B5} {a b : Ex} {I : Heap} {cs : List Value} (h : Rep I (Ex.bin o a b).tree cs) (hok : (Ex.bin o a b).ok = true) (L : Bl) :
  Fun Tryz.prog 118 [.agg cs.toArray] I L (SP (Ex.bin o a b).turn L) := by
 cases o with
 | add => exact Yn h hok L
 | sub => exact Yt h hok L
 | mul => exact Yr h hok L
 | call => exact Wj h hok L
 | pair => exact Wk h hok L
theorem Aaq {o : U2} {a : Ex} {I : Heap} {cs : List Value} (h : Rep I (Ex.un o a).tree cs) (hok : (Ex.un o a).ok = true) (L : Bl) :
  Fun Tryz.prog 118 [.agg cs.toArray] I L (SP (Ex.un o a).turn L) := by
 cases o with
 | fst => exact Yp h hok L
 | snd => exact Ys h hok L
set_option maxHeartbeats 1000000 in
theorem Yl {N : Nat} (ihn : Q4 N) {o : B5} {a b : Ex} {I : Heap} {cs : List Value} (hlt : SizeOf.sizeOf (Ex.bin o a b) < N + 1) (h : Rep I (Ex.bin o a b).tree cs) (hok : (Ex.bin o a b).ok = true) (L : Bl) :
  Fun Tryz.prog 68 [.agg cs.toArray] I L (SP (Ex.bin o a b).step L) := by
 obtain ⟨oa, c, oaf, cf, rfl, hf, hcl, hcs⟩ := h.cells
 have hpos : 0 < (Ex.bin o a b).tree.parts.length := by show 0 < 3; decide
 obtain ⟨xa, rfl⟩ : ∃ xa, oa = some xa := ⟨_, Cq hf.nil hpos⟩
 have hlen : (Ex.bin o a b).tree.parts.length = 3 := rfl
 have hp := hf.len
 have hp2 := hp
 unfold As at hp2
 have hev : Zl o.txt = [1, 2] := by cases o <;> rfl
 have hat : (Ex.bin o a b).tree.atom = [] := rfl
 simp only [Ex.bin.sizeOf_spec] at hlt
 have hok0 := hok
 simp only [Ex.ok, Bool.and_eq_true, decide_eq_true_eq] at hok
 refine Ai (by simp) ?_; refine Se rfl ?_; refine Cd rfl rfl .free rfl ?_; intro b1; refine Ax .free rfl ?_; intro b2; refine Oa rfl (Aa (Ab (Se rfl (Oh rfl ?_)))); refine A6 rfl .free rfl ?_; refine Od rfl rfl rfl (Aa ?_)
 first | refine Lz rfl (by simp [hat]) ?_ | refine Ly rfl (by simp [hat]) ?_ | refine Ap (by simp [look, Ba, *]) ?_
 refine Af (Se rfl (Oh rfl ?_)); refine A6 rfl .free rfl ?_
 first | refine A3 rfl rfl 0 rfl .free rfl ?_ | refine A4 rfl rfl 0 rfl .free rfl ?_
 refine Av rfl .free rfl ?_; refine Dk rfl .free rfl ?_; refine C3 (t := 17) (v' := .string (str o.txt)) rfl rfl ?_; refine Ca rfl (Ju o.txt _ _) ?_; rintro _ J0 _ e0 ⟨ok, ck, rfl, hk, rfl⟩
 have hf := hf.mono e0
 have hle := e0
 rw [hev] at hk; rw [hev]; refine Oa rfl (Aa (Ab (Se rfl (Oa rfl (Aa (Aj ?_)))))); refine Dq ?_; refine Ab (Se rfl (Om rfl (Om rfl (On rfl (Oc rfl rfl rfl (Aa ?_)))))); refine B6 rfl (by first | rfl | decide | (simp; done) | omega) ?_; refine Af (Ab (Aj (Ab ?_))); refine B8 10 rfl rfl ?_; refine Da 0 rfl (Ag rfl) ?_; refine Dt 1 [10] rfl (Bd rfl) ?_; refine Da 2 rfl (Ae rfl) ?_; refine Da 3 rfl (Ae rfl) ?_
 first | refine Da 4 rfl (A1 rfl rfl _ rfl) ?_ | refine Da 4 rfl (A2 rfl rfl _ rfl) ?_
 refine Dt 5 [10] rfl (Gl rfl) ?_
 first | refine Da 6 rfl (A1 rfl rfl _ rfl) ?_ | refine Da 6 rfl (A2 rfl rfl _ rfl) ?_
 refine Dt 7 [10] rfl (A8 rfl) ?_; refine Dc 8 rfl rfl (Mg _ (Nat.lt_succ_self _) (hf.as 1 a.tree (by omega) rfl) hok.1 _) ?_; rintro _ _ _ _ ⟨rfl, rfl, rfl⟩; refine Hx ?_; refine Da 9 rfl (Lk rfl) ?_; refine Ao (by kernel_rfl) ?_; refine Ar rfl ?_ ?_
 ·intro c2
  try simp only [nb] at c2
  have hva : a.value = false := by simpa using c2
  have hst : (Ex.bin o a b).step = a.step.map fun q => .bin o q b := by simp only [Ex.step, hva, if_true]
  refine Ab ?_; refine B8 15 rfl rfl ?_; refine Da 0 rfl (Ag rfl) ?_; refine Dt 1 [13] rfl (Bd rfl) ?_; refine Da 2 rfl (Ae rfl) ?_; refine Da 3 rfl (Ae rfl) ?_
  first | refine Da 4 rfl (A1 rfl rfl _ rfl) ?_ | refine Da 4 rfl (A2 rfl rfl _ rfl) ?_
  refine Dt 5 [13] rfl (Gl rfl) ?_
  first | refine Da 6 rfl (A1 rfl rfl _ rfl) ?_ | refine Da 6 rfl (A2 rfl rfl _ rfl) ?_
  refine Dt 7 [13] rfl (A8 rfl) ?_; refine Cm 8 12 (by kernel_rfl) ?_ ?_
  ·skip
   refine Fk 8 rfl rfl rfl .free rfl (ihn (by omega) (hf.as 1 a.tree (by omega) rfl) hok.1 _) ?_; rintro _ J1 _ e1 ⟨t1, cs1, rfl, hr, hte, rfl⟩; obtain ⟨o1, k1, _, rfl, -⟩ := hr.open
   have hf := hf.mono e1
   have hle := hle.trans e1
   have hk := hk.mono e1
   refine Hx ?_; refine Da 9 rfl (Ae rfl) ?_; refine Da 10 rfl (Bh rfl rfl) ?_; refine Da 11 rfl (Bh rfl rfl) ?_; refine Dz 12 rfl (by kernel_rfl) rfl .free rfl (.inr Am) ?_; intro b6; refine Dx 13 rfl rfl rfl rfl ?_; refine Db 14 rfl (Aw rfl) ?_; refine Ao (by kernel_rfl) ?_; refine Se rfl ?_; refine Dp .free rfl ?_; intro b47; refine Oh rfl ?_; refine A6 rfl .free rfl ?_
   refine C2 (B := some (b47, [])) (xs := []) (ys := Co oaf cf 0 (Ex.bin o a b).tree.parts) (m := 0) (c := 0) (by intro kk; simp) (by rfl) rfl rfl ⟨rfl, Nat.le_refl _, rfl⟩ (fun _ h => h) (by have := hcl.length; omega) (fun a ha => by cases ha; exact ((hcs _ rfl).mono hle).reads) (by simp) hcl.plain hpos (by decide) (by omega) (by decide) .free rfl ?_; intro bc sp cc hB'
   have hcc : (Ex.bin o a b).tree.parts.length ≤ cc := by have := hB'.2.1; omega
   refine C3 (t := 50) (v' := .slice (some ⟨bc, 0, none⟩) (Ex.bin o a b).tree.parts.length cc) rfl (by rw [Nat.zero_add]) ?_
   simp only [List.nil_append]
   simp only [show (Ex.bin o a b).tree.parts = [.node o.txt [], a.tree, b.tree] from rfl, Co, List.cons_append, List.nil_append]
   refine Bn rfl rfl rfl .free rfl ?_; refine Ax .free rfl ?_; intro b8; refine Bk rfl rfl rfl rfl .free ?_; refine Aa (Ab ?_); refine B8 9 rfl rfl ?_; refine Da 0 rfl (Ag rfl) ?_; refine Dt 1 [8] rfl (Bd rfl) ?_; refine Da 2 rfl (Ae rfl) ?_; refine Da 3 rfl (Ae rfl) ?_
   first | refine Da 4 rfl (A1 rfl rfl _ rfl) ?_ | refine Da 4 rfl (A2 rfl rfl _ rfl) ?_
   refine Dt 5 [8] rfl (Gl rfl) ?_; refine Dt 6 [8] rfl (Bx rfl) ?_
   first | refine Da 7 rfl (A1 rfl rfl _ rfl) ?_ | refine Da 7 rfl (A2 rfl rfl _ rfl) ?_
   refine Dx 8 rfl rfl rfl rfl ?_; refine Ao (by kernel_rfl) ?_; refine Se rfl ?_; refine Az rfl .free rfl ?_; refine Om rfl ?_; refine Bk rfl rfl rfl rfl .free ?_; refine Oa rfl (Aa ?_); refine Bg (fun w h => h.f1) (Be ?_); intro hz
   have hf := hf.mono hz
   refine Ad (.c rfl (.tmp rfl .nil)) ?_; refine ⟨_, L, hle.trans hz, Ay, .node [] [.node o.txt [], t1, b.tree], [.string (str []), .slice (some ⟨bc, 0, none⟩) (Ex.bin o a b).tree.parts.length cc], ?_, .mk' rfl (.cons (hf.as 0 (.node o.txt []) (by omega) rfl) (.cons (hr.mono hz) (.cons (hf.as 2 (b.tree) (by omega) rfl) (.nil)))) (fun y hy => by cases hy; exact A5 (xs := [_, _, _, _, _, _])) (by simp) hcc (by simp [As]) hp, ?_, rfl⟩
   ·rw [C9 hst]; rfl
   ·intro e' he'; rw [hst] at he'; obtain ⟨q, hq, rfl⟩ := Option.map_eq_some_iff.1 he'; rw [hte q hq]; rfl
  ·skip
   refine B9 12 rfl rfl .free rfl (.inr Am) ?_; intro b6; refine Dc 8 rfl rfl (ihn (by omega) (hf.as 1 a.tree (by omega) rfl) hok.1 _) ?_; rintro _ J1 _ e1 ⟨t1, cs1, rfl, hr, hte, rfl⟩; obtain ⟨o1, k1, _, rfl, -⟩ := hr.open
   have hf := hf.mono e1
   have hle := hle.trans e1
   have hk := hk.mono e1
   refine Hx ?_; refine Da 9 rfl (Ae rfl) ?_; refine Da 10 rfl (Bh rfl rfl) ?_; refine Da 11 rfl (Bh rfl rfl) ?_; refine Dx 13 rfl rfl rfl rfl ?_; refine Db 14 rfl (Aw rfl) ?_; refine Ao (by kernel_rfl) ?_; refine Se rfl ?_; refine Dp .free rfl ?_; intro b47; refine Oh rfl ?_; refine A6 rfl .free rfl ?_
   refine C2 (B := some (b47, [])) (xs := []) (ys := Co oaf cf 0 (Ex.bin o a b).tree.parts) (m := 0) (c := 0) (by intro kk; simp) (by rfl) rfl rfl ⟨rfl, Nat.le_refl _, rfl⟩ (fun _ h => h) (by have := hcl.length; omega) (fun a ha => by cases ha; exact ((hcs _ rfl).mono hle).reads) (by simp) hcl.plain hpos (by decide) (by omega) (by decide) .free rfl ?_; intro bc sp cc hB'
   have hcc : (Ex.bin o a b).tree.parts.length ≤ cc := by have := hB'.2.1; omega
   refine C3 (t := 50) (v' := .slice (some ⟨bc, 0, none⟩) (Ex.bin o a b).tree.parts.length cc) rfl (by rw [Nat.zero_add]) ?_
   simp only [List.nil_append]
   simp only [show (Ex.bin o a b).tree.parts = [.node o.txt [], a.tree, b.tree] from rfl, Co, List.cons_append, List.nil_append]
   refine Bn rfl rfl rfl .free rfl ?_; refine Ax .free rfl ?_; intro b8; refine Bk rfl rfl rfl rfl .free ?_; refine Aa (Ab ?_); refine B8 9 rfl rfl ?_; refine Da 0 rfl (Ag rfl) ?_; refine Dt 1 [8] rfl (Bd rfl) ?_; refine Da 2 rfl (Ae rfl) ?_; refine Da 3 rfl (Ae rfl) ?_
   first | refine Da 4 rfl (A1 rfl rfl _ rfl) ?_ | refine Da 4 rfl (A2 rfl rfl _ rfl) ?_
   refine Dt 5 [8] rfl (Gl rfl) ?_; refine Dt 6 [8] rfl (Bx rfl) ?_
   first | refine Da 7 rfl (A1 rfl rfl _ rfl) ?_ | refine Da 7 rfl (A2 rfl rfl _ rfl) ?_
   refine Dx 8 rfl rfl rfl rfl ?_; refine Ao (by kernel_rfl) ?_; refine Se rfl ?_; refine Az rfl .free rfl ?_; refine Om rfl ?_; refine Bk rfl rfl rfl rfl .free ?_; refine Oa rfl (Aa ?_); refine Bg (fun w h => h.f1) (Be ?_); intro hz
   have hf := hf.mono hz
   refine Ad (.c rfl (.tmp rfl .nil)) ?_; refine ⟨_, L, hle.trans hz, Ay, .node [] [.node o.txt [], t1, b.tree], [.string (str []), .slice (some ⟨bc, 0, none⟩) (Ex.bin o a b).tree.parts.length cc], ?_, .mk' rfl (.cons (hf.as 0 (.node o.txt []) (by omega) rfl) (.cons (hr.mono hz) (.cons (hf.as 2 (b.tree) (by omega) rfl) (.nil)))) (fun y hy => by cases hy; exact A5 (xs := [_, _, _, _, _, _])) (by simp) hcc (by simp [As]) hp, ?_, rfl⟩
   ·rw [C9 hst]; rfl
   ·intro e' he'; rw [hst] at he'; obtain ⟨q, hq, rfl⟩ := Option.map_eq_some_iff.1 he'; rw [hte q hq]; rfl
 intro c2
 try simp only [nb] at c2
 have hva : a.value = true := by simpa using c2
 refine Af (Al (Ah rfl (Om rfl ?_))); refine Or rfl rfl rfl ?_; refine Oa rfl (Aa ?_); refine Bu ?_; refine Ab (Se rfl (Om rfl (Om rfl (On rfl (Oc rfl rfl rfl (Aa ?_)))))); refine B6 rfl (by first | rfl | decide | (simp; done) | omega) ?_; refine Af (Ab (Aj (Ab ?_))); refine B8 10 rfl rfl ?_; refine Da 0 rfl (Ag rfl) ?_; refine Dt 1 [10] rfl (Bd rfl) ?_; refine Da 2 rfl (Ae rfl) ?_; refine Da 3 rfl (Ae rfl) ?_
 first | refine Da 4 rfl (A1 rfl rfl _ rfl) ?_ | refine Da 4 rfl (A2 rfl rfl _ rfl) ?_
 refine Dt 5 [10] rfl (Gl rfl) ?_
 first | refine Da 6 rfl (A1 rfl rfl _ rfl) ?_ | refine Da 6 rfl (A2 rfl rfl _ rfl) ?_
 refine Dt 7 [10] rfl (A8 rfl) ?_; refine Dc 8 rfl rfl (Mg _ (Nat.lt_succ_self _) (hf.as 2 b.tree (by omega) rfl) hok.2 _) ?_; rintro _ _ _ _ ⟨rfl, rfl, rfl⟩; refine Hx ?_; refine Da 9 rfl (Lk rfl) ?_; refine Ao (by kernel_rfl) ?_; refine Ar rfl ?_ ?_
 ·intro c2
  try simp only [nb] at c2
  have hvb : b.value = false := by simpa using c2
  have hst : (Ex.bin o a b).step = b.step.map fun q => .bin o a q := by simp only [Ex.step, hva, Bool.true_eq_false, if_false, hvb, if_true]
  refine Ab ?_; refine B8 15 rfl rfl ?_; refine Da 0 rfl (Ag rfl) ?_; refine Dt 1 [13] rfl (Bd rfl) ?_; refine Da 2 rfl (Ae rfl) ?_; refine Da 3 rfl (Ae rfl) ?_
  first | refine Da 4 rfl (A1 rfl rfl _ rfl) ?_ | refine Da 4 rfl (A2 rfl rfl _ rfl) ?_
  refine Dt 5 [13] rfl (Gl rfl) ?_
  first | refine Da 6 rfl (A1 rfl rfl _ rfl) ?_ | refine Da 6 rfl (A2 rfl rfl _ rfl) ?_
  refine Dt 7 [13] rfl (A8 rfl) ?_; refine Cm 8 12 (by kernel_rfl) ?_ ?_
  ·skip
   refine Fk 8 rfl rfl rfl .free rfl (ihn (by omega) (hf.as 2 b.tree (by omega) rfl) hok.2 _) ?_; rintro _ J1 _ e1 ⟨t1, cs1, rfl, hr, hte, rfl⟩; obtain ⟨o1, k1, _, rfl, -⟩ := hr.open
   have hf := hf.mono e1
   have hle := hle.trans e1
   have hk := hk.mono e1
   refine Hx ?_; refine Da 9 rfl (Ae rfl) ?_; refine Da 10 rfl (Bh rfl rfl) ?_; refine Da 11 rfl (Bh rfl rfl) ?_; refine Dz 12 rfl (by kernel_rfl) rfl .free rfl (.inr Am) ?_; intro b6; refine Dx 13 rfl rfl rfl rfl ?_; refine Db 14 rfl (Aw rfl) ?_; refine Ao (by kernel_rfl) ?_; refine Se rfl ?_; refine Dp .free rfl ?_; intro b47; refine Oh rfl ?_; refine A6 rfl .free rfl ?_
   refine C2 (B := some (b47, [])) (xs := []) (ys := Co oaf cf 0 (Ex.bin o a b).tree.parts) (m := 0) (c := 0) (by intro kk; simp) (by rfl) rfl rfl ⟨rfl, Nat.le_refl _, rfl⟩ (fun _ h => h) (by have := hcl.length; omega) (fun a ha => by cases ha; exact ((hcs _ rfl).mono hle).reads) (by simp) hcl.plain hpos (by decide) (by omega) (by decide) .free rfl ?_; intro bc sp cc hB'
   have hcc : (Ex.bin o a b).tree.parts.length ≤ cc := by have := hB'.2.1; omega
   refine C3 (t := 50) (v' := .slice (some ⟨bc, 0, none⟩) (Ex.bin o a b).tree.parts.length cc) rfl (by rw [Nat.zero_add]) ?_
   simp only [List.nil_append]
   simp only [show (Ex.bin o a b).tree.parts = [.node o.txt [], a.tree, b.tree] from rfl, Co, List.cons_append, List.nil_append]
   refine Bn rfl rfl rfl .free rfl ?_; refine Ax .free rfl ?_; intro b8; refine Bk rfl rfl rfl rfl .free ?_; refine Aa (Ab ?_); refine B8 9 rfl rfl ?_; refine Da 0 rfl (Ag rfl) ?_; refine Dt 1 [8] rfl (Bd rfl) ?_; refine Da 2 rfl (Ae rfl) ?_; refine Da 3 rfl (Ae rfl) ?_
   first | refine Da 4 rfl (A1 rfl rfl _ rfl) ?_ | refine Da 4 rfl (A2 rfl rfl _ rfl) ?_
   refine Dt 5 [8] rfl (Gl rfl) ?_; refine Dt 6 [8] rfl (Bx rfl) ?_
   first | refine Da 7 rfl (A1 rfl rfl _ rfl) ?_ | refine Da 7 rfl (A2 rfl rfl _ rfl) ?_
   refine Dx 8 rfl rfl rfl rfl ?_; refine Ao (by kernel_rfl) ?_; refine Se rfl ?_; refine Az rfl .free rfl ?_; refine Om rfl ?_; refine Bk rfl rfl rfl rfl .free ?_; refine Oa rfl (Aa ?_); refine Bg (fun w h => h.f1) (Be ?_); intro hz
   have hf := hf.mono hz
   refine Ad (.c rfl (.tmp rfl .nil)) ?_; refine ⟨_, L, hle.trans hz, Ay, .node [] [.node o.txt [], a.tree, t1], [.string (str []), .slice (some ⟨bc, 0, none⟩) (Ex.bin o a b).tree.parts.length cc], ?_, .mk' rfl (.cons (hf.as 0 (.node o.txt []) (by omega) rfl) (.cons (hf.as 1 (a.tree) (by omega) rfl) (.cons (hr.mono hz) (.nil)))) (fun y hy => by cases hy; exact A5 (xs := [_, _, _, _, _, _])) (by simp) hcc (by simp [As]) hp, ?_, rfl⟩
   ·rw [C9 hst]; rfl
   ·intro e' he'; rw [hst] at he'; obtain ⟨q, hq, rfl⟩ := Option.map_eq_some_iff.1 he'; rw [hte q hq]; rfl
  ·skip
   refine B9 12 rfl rfl .free rfl (.inr Am) ?_; intro b6; refine Dc 8 rfl rfl (ihn (by omega) (hf.as 2 b.tree (by omega) rfl) hok.2 _) ?_; rintro _ J1 _ e1 ⟨t1, cs1, rfl, hr, hte, rfl⟩; obtain ⟨o1, k1, _, rfl, -⟩ := hr.open
   have hf := hf.mono e1
   have hle := hle.trans e1
   have hk := hk.mono e1
   refine Hx ?_; refine Da 9 rfl (Ae rfl) ?_; refine Da 10 rfl (Bh rfl rfl) ?_; refine Da 11 rfl (Bh rfl rfl) ?_; refine Dx 13 rfl rfl rfl rfl ?_; refine Db 14 rfl (Aw rfl) ?_; refine Ao (by kernel_rfl) ?_; refine Se rfl ?_; refine Dp .free rfl ?_; intro b47; refine Oh rfl ?_; refine A6 rfl .free rfl ?_
   refine C2 (B := some (b47, [])) (xs := []) (ys := Co oaf cf 0 (Ex.bin o a b).tree.parts) (m := 0) (c := 0) (by intro kk; simp) (by rfl) rfl rfl ⟨rfl, Nat.le_refl _, rfl⟩ (fun _ h => h) (by have := hcl.length; omega) (fun a ha => by cases ha; exact ((hcs _ rfl).mono hle).reads) (by simp) hcl.plain hpos (by decide) (by omega) (by decide) .free rfl ?_; intro bc sp cc hB'
   have hcc : (Ex.bin o a b).tree.parts.length ≤ cc := by have := hB'.2.1; omega
   refine C3 (t := 50) (v' := .slice (some ⟨bc, 0, none⟩) (Ex.bin o a b).tree.parts.length cc) rfl (by rw [Nat.zero_add]) ?_
   simp only [List.nil_append]
   simp only [show (Ex.bin o a b).tree.parts = [.node o.txt [], a.tree, b.tree] from rfl, Co, List.cons_append, List.nil_append]
   refine Bn rfl rfl rfl .free rfl ?_; refine Ax .free rfl ?_; intro b8; refine Bk rfl rfl rfl rfl .free ?_; refine Aa (Ab ?_); refine B8 9 rfl rfl ?_; refine Da 0 rfl (Ag rfl) ?_; refine Dt 1 [8] rfl (Bd rfl) ?_; refine Da 2 rfl (Ae rfl) ?_; refine Da 3 rfl (Ae rfl) ?_
   first | refine Da 4 rfl (A1 rfl rfl _ rfl) ?_ | refine Da 4 rfl (A2 rfl rfl _ rfl) ?_
   refine Dt 5 [8] rfl (Gl rfl) ?_; refine Dt 6 [8] rfl (Bx rfl) ?_
   first | refine Da 7 rfl (A1 rfl rfl _ rfl) ?_ | refine Da 7 rfl (A2 rfl rfl _ rfl) ?_
   refine Dx 8 rfl rfl rfl rfl ?_; refine Ao (by kernel_rfl) ?_; refine Se rfl ?_; refine Az rfl .free rfl ?_; refine Om rfl ?_; refine Bk rfl rfl rfl rfl .free ?_; refine Oa rfl (Aa ?_); refine Bg (fun w h => h.f1) (Be ?_); intro hz
   have hf := hf.mono hz
   refine Ad (.c rfl (.tmp rfl .nil)) ?_; refine ⟨_, L, hle.trans hz, Ay, .node [] [.node o.txt [], a.tree, t1], [.string (str []), .slice (some ⟨bc, 0, none⟩) (Ex.bin o a b).tree.parts.length cc], ?_, .mk' rfl (.cons (hf.as 0 (.node o.txt []) (by omega) rfl) (.cons (hf.as 1 (a.tree) (by omega) rfl) (.cons (hr.mono hz) (.nil)))) (fun y hy => by cases hy; exact A5 (xs := [_, _, _, _, _, _])) (by simp) hcc (by simp [As]) hp, ?_, rfl⟩
   ·rw [C9 hst]; rfl
   ·intro e' he'; rw [hst] at he'; obtain ⟨q, hq, rfl⟩ := Option.map_eq_some_iff.1 he'; rw [hte q hq]; rfl
 intro c2
 try simp only [nb] at c2
 have hvb : b.value = true := by simpa using c2
 refine Af (Al (Ah rfl (Om rfl ?_))); refine Or rfl rfl rfl ?_; refine Oa rfl (Aa ?_); refine Bu ?_; refine Ab (Se rfl (Om rfl (Om rfl (On rfl (Oc rfl rfl rfl (Aa ?_)))))); refine Cr rfl (by first | rfl | decide | (simp; done) | omega) ?_; refine Bw rfl ?_; refine Se rfl ?_; refine Az rfl .free rfl ?_; refine Ca rfl (Yo hf.rep hok0 _) ?_; rintro _ J1 _ e1 ⟨t1, cs1, rfl, hr, hte, rfl⟩; obtain ⟨o1, k1, _, rfl, -⟩ := hr.open
 have hle := hle.trans e1
 have hturn : (Ex.bin o a b).step = (Ex.bin o a b).turn := by simp only [Ex.step, hva, hvb, Bool.true_eq_false, if_false]
 refine Oe rfl rfl (Oe rfl rfl ?_); refine Bk rfl rfl rfl rfl .free ?_; refine Oa rfl (Aa ?_); refine Ad (.c rfl (.tmp rfl .nil)) ?_
 exact ⟨_, L, hle, Ay, t1, _, by rw [hturn]; rfl, hr, by rw [hturn]; exact hte, rfl⟩
set_option maxHeartbeats 1000000 in
theorem Ym {N : Nat} (ihn : Q4 N) {a b d : Ex} {I : Heap} {cs : List Value} (hlt : SizeOf.sizeOf (Ex.ite a b d) < N + 1) (h : Rep I (Ex.ite a b d).tree cs) (hok : (Ex.ite a b d).ok = true) (L : Bl) :
  Fun Tryz.prog 68 [.agg cs.toArray] I L (SP (Ex.ite a b d).step L) := by
 obtain ⟨oa, c, oaf, cf, rfl, hf, hcl, hcs⟩ := h.cells
 have hpos : 0 < (Ex.ite a b d).tree.parts.length := by show 0 < 4; decide
 obtain ⟨xa, rfl⟩ : ∃ xa, oa = some xa := ⟨_, Cq hf.nil hpos⟩
 have hlen : (Ex.ite a b d).tree.parts.length = 4 := rfl
 have hp := hf.len
 have hp2 := hp
 unfold As at hp2
 have hev : Zl [105, 102] = [1] := rfl
 have hat : (Ex.ite a b d).tree.atom = [] := rfl
 simp only [Ex.ite.sizeOf_spec] at hlt
 have hok0 := hok
 simp only [Ex.ok, Bool.and_eq_true, decide_eq_true_eq] at hok
 refine Ai (by simp) ?_; refine Se rfl ?_; refine Cd rfl rfl .free rfl ?_; intro b1; refine Ax .free rfl ?_; intro b2; refine Oa rfl (Aa (Ab (Se rfl (Oh rfl ?_)))); refine A6 rfl .free rfl ?_; refine Od rfl rfl rfl (Aa ?_)
 first | refine Lz rfl (by simp [hat]) ?_ | refine Ly rfl (by simp [hat]) ?_ | refine Ap (by simp [look, Ba, *]) ?_
 refine Af (Se rfl (Oh rfl ?_)); refine A6 rfl .free rfl ?_
 first | refine A3 rfl rfl 0 rfl .free rfl ?_ | refine A4 rfl rfl 0 rfl .free rfl ?_
 refine Av rfl .free rfl ?_; refine Dk rfl .free rfl ?_; refine C3 (t := 17) (v' := .string (str [105, 102])) rfl rfl ?_; refine Ca rfl (Ju [105, 102] _ _) ?_; rintro _ J0 _ e0 ⟨ok, ck, rfl, hk, rfl⟩
 have hf := hf.mono e0
 have hle := e0
 rw [hev] at hk; rw [hev]; refine Oa rfl (Aa (Ab (Se rfl (Oa rfl (Aa (Aj ?_)))))); refine Dq ?_; refine Ab (Se rfl (Om rfl (Om rfl (On rfl (Oc rfl rfl rfl (Aa ?_)))))); refine B6 rfl (by first | rfl | decide | (simp; done) | omega) ?_; refine Af (Ab (Aj (Ab ?_))); refine B8 10 rfl rfl ?_; refine Da 0 rfl (Ag rfl) ?_; refine Dt 1 [10] rfl (Bd rfl) ?_; refine Da 2 rfl (Ae rfl) ?_; refine Da 3 rfl (Ae rfl) ?_
 first | refine Da 4 rfl (A1 rfl rfl _ rfl) ?_ | refine Da 4 rfl (A2 rfl rfl _ rfl) ?_
 refine Dt 5 [10] rfl (Gl rfl) ?_
 first | refine Da 6 rfl (A1 rfl rfl _ rfl) ?_ | refine Da 6 rfl (A2 rfl rfl _ rfl) ?_
 refine Dt 7 [10] rfl (A8 rfl) ?_; refine Dc 8 rfl rfl (Mg _ (Nat.lt_succ_self _) (hf.as 1 a.tree (by omega) rfl) hok.1.1 _) ?_; rintro _ _ _ _ ⟨rfl, rfl, rfl⟩; refine Hx ?_; refine Da 9 rfl (Lk rfl) ?_; refine Ao (by kernel_rfl) ?_; refine Ar rfl ?_ ?_
 ·intro c2
  try simp only [nb] at c2
  have hva : a.value = false := by simpa using c2
  have hst : (Ex.ite a b d).step = a.step.map fun q => .ite q b d := by simp only [Ex.step, hva, if_true]
  refine Ab ?_; refine B8 15 rfl rfl ?_; refine Da 0 rfl (Ag rfl) ?_; refine Dt 1 [13] rfl (Bd rfl) ?_; refine Da 2 rfl (Ae rfl) ?_; refine Da 3 rfl (Ae rfl) ?_
  first | refine Da 4 rfl (A1 rfl rfl _ rfl) ?_ | refine Da 4 rfl (A2 rfl rfl _ rfl) ?_
  refine Dt 5 [13] rfl (Gl rfl) ?_
  first | refine Da 6 rfl (A1 rfl rfl _ rfl) ?_ | refine Da 6 rfl (A2 rfl rfl _ rfl) ?_
  refine Dt 7 [13] rfl (A8 rfl) ?_; refine Cm 8 12 (by kernel_rfl) ?_ ?_
  ·skip
   refine Fk 8 rfl rfl rfl .free rfl (ihn (by omega) (hf.as 1 a.tree (by omega) rfl) hok.1.1 _) ?_; rintro _ J1 _ e1 ⟨t1, cs1, rfl, hr, hte, rfl⟩; obtain ⟨o1, k1, _, rfl, -⟩ := hr.open
   have hf := hf.mono e1
   have hle := hle.trans e1
   have hk := hk.mono e1
   refine Hx ?_; refine Da 9 rfl (Ae rfl) ?_; refine Da 10 rfl (Bh rfl rfl) ?_; refine Da 11 rfl (Bh rfl rfl) ?_; refine Dz 12 rfl (by kernel_rfl) rfl .free rfl (.inr Am) ?_; intro b6; refine Dx 13 rfl rfl rfl rfl ?_; refine Db 14 rfl (Aw rfl) ?_; refine Ao (by kernel_rfl) ?_; refine Se rfl ?_; refine Dp .free rfl ?_; intro b47; refine Oh rfl ?_; refine A6 rfl .free rfl ?_
   refine C2 (B := some (b47, [])) (xs := []) (ys := Co oaf cf 0 (Ex.ite a b d).tree.parts) (m := 0) (c := 0) (by intro kk; simp) (by rfl) rfl rfl ⟨rfl, Nat.le_refl _, rfl⟩ (fun _ h => h) (by have := hcl.length; omega) (fun a ha => by cases ha; exact ((hcs _ rfl).mono hle).reads) (by simp) hcl.plain hpos (by decide) (by omega) (by decide) .free rfl ?_; intro bc sp cc hB'
   have hcc : (Ex.ite a b d).tree.parts.length ≤ cc := by have := hB'.2.1; omega
   refine C3 (t := 50) (v' := .slice (some ⟨bc, 0, none⟩) (Ex.ite a b d).tree.parts.length cc) rfl (by rw [Nat.zero_add]) ?_
   simp only [List.nil_append]
   simp only [show (Ex.ite a b d).tree.parts = [.node Fs [], a.tree, b.tree, d.tree] from rfl, Co, List.cons_append, List.nil_append]
   refine Bn rfl rfl rfl .free rfl ?_; refine Ax .free rfl ?_; intro b8; refine Bk rfl rfl rfl rfl .free ?_; refine Aa (Ab ?_); refine B8 9 rfl rfl ?_; refine Da 0 rfl (Ag rfl) ?_; refine Dt 1 [8] rfl (Bd rfl) ?_; refine Da 2 rfl (Ae rfl) ?_; refine Da 3 rfl (Ae rfl) ?_
   first | refine Da 4 rfl (A1 rfl rfl _ rfl) ?_ | refine Da 4 rfl (A2 rfl rfl _ rfl) ?_
   refine Dt 5 [8] rfl (Gl rfl) ?_; refine Dt 6 [8] rfl (Bx rfl) ?_
   first | refine Da 7 rfl (A1 rfl rfl _ rfl) ?_ | refine Da 7 rfl (A2 rfl rfl _ rfl) ?_
   refine Dx 8 rfl rfl rfl rfl ?_; refine Ao (by kernel_rfl) ?_; refine Se rfl ?_; refine Az rfl .free rfl ?_; refine Om rfl ?_; refine Bk rfl rfl rfl rfl .free ?_; refine Oa rfl (Aa ?_); refine Bg (fun w h => h.f1) (Be ?_); intro hz
   have hf := hf.mono hz
   refine Ad (.c rfl (.tmp rfl .nil)) ?_; refine ⟨_, L, hle.trans hz, Ay, .node [] [.node Fs [], t1, b.tree, d.tree], [.string (str []), .slice (some ⟨bc, 0, none⟩) (Ex.ite a b d).tree.parts.length cc], ?_, .mk' rfl (.cons (hf.as 0 (.node Fs []) (by omega) rfl) (.cons (hr.mono hz) (.cons (hf.as 2 (b.tree) (by omega) rfl) (.cons (hf.as 3 (d.tree) (by omega) rfl) (.nil))))) (fun y hy => by cases hy; exact A5 (xs := [_, _, _, _, _, _, _, _])) (by simp) hcc (by simp [As]) hp, ?_, rfl⟩
   ·rw [C9 hst]; rfl
   ·intro e' he'; rw [hst] at he'; obtain ⟨q, hq, rfl⟩ := Option.map_eq_some_iff.1 he'; rw [hte q hq]; rfl
  ·skip
   refine B9 12 rfl rfl .free rfl (.inr Am) ?_; intro b6; refine Dc 8 rfl rfl (ihn (by omega) (hf.as 1 a.tree (by omega) rfl) hok.1.1 _) ?_; rintro _ J1 _ e1 ⟨t1, cs1, rfl, hr, hte, rfl⟩; obtain ⟨o1, k1, _, rfl, -⟩ := hr.open
   have hf := hf.mono e1
   have hle := hle.trans e1
   have hk := hk.mono e1
   refine Hx ?_; refine Da 9 rfl (Ae rfl) ?_; refine Da 10 rfl (Bh rfl rfl) ?_; refine Da 11 rfl (Bh rfl rfl) ?_; refine Dx 13 rfl rfl rfl rfl ?_; refine Db 14 rfl (Aw rfl) ?_; refine Ao (by kernel_rfl) ?_; refine Se rfl ?_; refine Dp .free rfl ?_; intro b47; refine Oh rfl ?_; refine A6 rfl .free rfl ?_
   refine C2 (B := some (b47, [])) (xs := []) (ys := Co oaf cf 0 (Ex.ite a b d).tree.parts) (m := 0) (c := 0) (by intro kk; simp) (by rfl) rfl rfl ⟨rfl, Nat.le_refl _, rfl⟩ (fun _ h => h) (by have := hcl.length; omega) (fun a ha => by cases ha; exact ((hcs _ rfl).mono hle).reads) (by simp) hcl.plain hpos (by decide) (by omega) (by decide) .free rfl ?_; intro bc sp cc hB'
   have hcc : (Ex.ite a b d).tree.parts.length ≤ cc := by have := hB'.2.1; omega
   refine C3 (t := 50) (v' := .slice (some ⟨bc, 0, none⟩) (Ex.ite a b d).tree.parts.length cc) rfl (by rw [Nat.zero_add]) ?_
   simp only [List.nil_append]
   simp only [show (Ex.ite a b d).tree.parts = [.node Fs [], a.tree, b.tree, d.tree] from rfl, Co, List.cons_append, List.nil_append]
   refine Bn rfl rfl rfl .free rfl ?_; refine Ax .free rfl ?_; intro b8; refine Bk rfl rfl rfl rfl .free ?_; refine Aa (Ab ?_); refine B8 9 rfl rfl ?_; refine Da 0 rfl (Ag rfl) ?_; refine Dt 1 [8] rfl (Bd rfl) ?_; refine Da 2 rfl (Ae rfl) ?_; refine Da 3 rfl (Ae rfl) ?_
   first | refine Da 4 rfl (A1 rfl rfl _ rfl) ?_ | refine Da 4 rfl (A2 rfl rfl _ rfl) ?_
   refine Dt 5 [8] rfl (Gl rfl) ?_; refine Dt 6 [8] rfl (Bx rfl) ?_
   first | refine Da 7 rfl (A1 rfl rfl _ rfl) ?_ | refine Da 7 rfl (A2 rfl rfl _ rfl) ?_
   refine Dx 8 rfl rfl rfl rfl ?_; refine Ao (by kernel_rfl) ?_; refine Se rfl ?_; refine Az rfl .free rfl ?_; refine Om rfl ?_; refine Bk rfl rfl rfl rfl .free ?_; refine Oa rfl (Aa ?_); refine Bg (fun w h => h.f1) (Be ?_); intro hz
   have hf := hf.mono hz
   refine Ad (.c rfl (.tmp rfl .nil)) ?_; refine ⟨_, L, hle.trans hz, Ay, .node [] [.node Fs [], t1, b.tree, d.tree], [.string (str []), .slice (some ⟨bc, 0, none⟩) (Ex.ite a b d).tree.parts.length cc], ?_, .mk' rfl (.cons (hf.as 0 (.node Fs []) (by omega) rfl) (.cons (hr.mono hz) (.cons (hf.as 2 (b.tree) (by omega) rfl) (.cons (hf.as 3 (d.tree) (by omega) rfl) (.nil))))) (fun y hy => by cases hy; exact A5 (xs := [_, _, _, _, _, _, _, _])) (by simp) hcc (by simp [As]) hp, ?_, rfl⟩
   ·rw [C9 hst]; rfl
   ·intro e' he'; rw [hst] at he'; obtain ⟨q, hq, rfl⟩ := Option.map_eq_some_iff.1 he'; rw [hte q hq]; rfl
 intro c2
 try simp only [nb] at c2
 have hva : a.value = true := by simpa using c2
 refine Af (Al (Ah rfl (Om rfl ?_))); refine Or rfl rfl rfl ?_; refine Oa rfl (Aa ?_); refine Bu ?_; refine Ab (Se rfl (Om rfl (Om rfl (On rfl (Oc rfl rfl rfl (Aa ?_)))))); refine Cr rfl (by first | rfl | decide | (simp; done) | omega) ?_; refine Bw rfl ?_; refine Se rfl ?_; refine Az rfl .free rfl ?_; refine Ca rfl (Yq hf.rep hok0 _) ?_; rintro _ J1 _ e1 ⟨t1, cs1, rfl, hr, hte, rfl⟩; obtain ⟨o1, k1, _, rfl, -⟩ := hr.open
 have hle := hle.trans e1
 have hturn : (Ex.ite a b d).step = (Ex.ite a b d).turn := by simp only [Ex.step, hva, Bool.true_eq_false, if_false]
 refine Oe rfl rfl (Oe rfl rfl ?_); refine Bk rfl rfl rfl rfl .free ?_; refine Oa rfl (Aa ?_); refine Ad (.c rfl (.tmp rfl .nil)) ?_
 exact ⟨_, L, hle, Ay, t1, _, by rw [hturn]; rfl, hr, by rw [hturn]; exact hte, rfl⟩
set_option maxHeartbeats 1000000 in
theorem Aam {N : Nat} (ihn : Q4 N) {z : Au} {a b : Ex} {I : Heap} {cs : List Value} (hlt : SizeOf.sizeOf (Ex.lt z a b) < N + 1) (h : Rep I (Ex.lt z a b).tree cs) (hok : (Ex.lt z a b).ok = true) (L : Bl) :
  Fun Tryz.prog 68 [.agg cs.toArray] I L (SP (Ex.lt z a b).step L) := by
 obtain ⟨oa, c, oaf, cf, rfl, hf, hcl, hcs⟩ := h.cells
 have hpos : 0 < (Ex.lt z a b).tree.parts.length := by show 0 < 4; decide
 obtain ⟨xa, rfl⟩ : ∃ xa, oa = some xa := ⟨_, Cq hf.nil hpos⟩
 have hlen : (Ex.lt z a b).tree.parts.length = 4 := rfl
 have hp := hf.len
 have hp2 := hp
 unfold As at hp2
 have hev : Zl [108, 101, 116] = [2] := rfl
 have hat : (Ex.lt z a b).tree.atom = [] := rfl
 simp only [Ex.lt.sizeOf_spec] at hlt
 have hok0 := hok
 simp only [Ex.ok, Bool.and_eq_true, decide_eq_true_eq] at hok
 refine Ai (by simp) ?_; refine Se rfl ?_; refine Cd rfl rfl .free rfl ?_; intro b1; refine Ax .free rfl ?_; intro b2; refine Oa rfl (Aa (Ab (Se rfl (Oh rfl ?_)))); refine A6 rfl .free rfl ?_; refine Od rfl rfl rfl (Aa ?_)
 first | refine Lz rfl (by simp [hat]) ?_ | refine Ly rfl (by simp [hat]) ?_ | refine Ap (by simp [look, Ba, *]) ?_
 refine Af (Se rfl (Oh rfl ?_)); refine A6 rfl .free rfl ?_
 first | refine A3 rfl rfl 0 rfl .free rfl ?_ | refine A4 rfl rfl 0 rfl .free rfl ?_
 refine Av rfl .free rfl ?_; refine Dk rfl .free rfl ?_; refine C3 (t := 17) (v' := .string (str [108, 101, 116])) rfl rfl ?_; refine Ca rfl (Ju [108, 101, 116] _ _) ?_; rintro _ J0 _ e0 ⟨ok, ck, rfl, hk, rfl⟩
 have hf := hf.mono e0
 have hle := e0
 rw [hev] at hk; rw [hev]; refine Oa rfl (Aa (Ab (Se rfl (Oa rfl (Aa (Aj ?_)))))); refine Dq ?_; refine Ab (Se rfl (Om rfl (Om rfl (On rfl (Oc rfl rfl rfl (Aa ?_)))))); refine B6 rfl (by first | rfl | decide | (simp; done) | omega) ?_; refine Af (Ab (Aj (Ab ?_))); refine B8 10 rfl rfl ?_; refine Da 0 rfl (Ag rfl) ?_; refine Dt 1 [10] rfl (Bd rfl) ?_; refine Da 2 rfl (Ae rfl) ?_; refine Da 3 rfl (Ae rfl) ?_
 first | refine Da 4 rfl (A1 rfl rfl _ rfl) ?_ | refine Da 4 rfl (A2 rfl rfl _ rfl) ?_
 refine Dt 5 [10] rfl (Gl rfl) ?_
 first | refine Da 6 rfl (A1 rfl rfl _ rfl) ?_ | refine Da 6 rfl (A2 rfl rfl _ rfl) ?_
 refine Dt 7 [10] rfl (A8 rfl) ?_; refine Dc 8 rfl rfl (Mg _ (Nat.lt_succ_self _) (hf.as 2 a.tree (by omega) rfl) hok.1.2 _) ?_; rintro _ _ _ _ ⟨rfl, rfl, rfl⟩; refine Hx ?_; refine Da 9 rfl (Lk rfl) ?_; refine Ao (by kernel_rfl) ?_; refine Ar rfl ?_ ?_
 ·intro c2
  try simp only [nb] at c2
  have hva : a.value = false := by simpa using c2
  have hst : (Ex.lt z a b).step = a.step.map fun q => .lt z q b := by simp only [Ex.step, hva, if_true]
  refine Ab ?_; refine B8 15 rfl rfl ?_; refine Da 0 rfl (Ag rfl) ?_; refine Dt 1 [13] rfl (Bd rfl) ?_; refine Da 2 rfl (Ae rfl) ?_; refine Da 3 rfl (Ae rfl) ?_
  first | refine Da 4 rfl (A1 rfl rfl _ rfl) ?_ | refine Da 4 rfl (A2 rfl rfl _ rfl) ?_
  refine Dt 5 [13] rfl (Gl rfl) ?_
  first | refine Da 6 rfl (A1 rfl rfl _ rfl) ?_ | refine Da 6 rfl (A2 rfl rfl _ rfl) ?_
  refine Dt 7 [13] rfl (A8 rfl) ?_; refine Cm 8 12 (by kernel_rfl) ?_ ?_
  ·skip
   refine Fk 8 rfl rfl rfl .free rfl (ihn (by omega) (hf.as 2 a.tree (by omega) rfl) hok.1.2 _) ?_; rintro _ J1 _ e1 ⟨t1, cs1, rfl, hr, hte, rfl⟩; obtain ⟨o1, k1, _, rfl, -⟩ := hr.open
   have hf := hf.mono e1
   have hle := hle.trans e1
   have hk := hk.mono e1
   refine Hx ?_; refine Da 9 rfl (Ae rfl) ?_; refine Da 10 rfl (Bh rfl rfl) ?_; refine Da 11 rfl (Bh rfl rfl) ?_; refine Dz 12 rfl (by kernel_rfl) rfl .free rfl (.inr Am) ?_; intro b6; refine Dx 13 rfl rfl rfl rfl ?_; refine Db 14 rfl (Aw rfl) ?_; refine Ao (by kernel_rfl) ?_; refine Se rfl ?_; refine Dp .free rfl ?_; intro b47; refine Oh rfl ?_; refine A6 rfl .free rfl ?_
   refine C2 (B := some (b47, [])) (xs := []) (ys := Co oaf cf 0 (Ex.lt z a b).tree.parts) (m := 0) (c := 0) (by intro kk; simp) (by rfl) rfl rfl ⟨rfl, Nat.le_refl _, rfl⟩ (fun _ h => h) (by have := hcl.length; omega) (fun a ha => by cases ha; exact ((hcs _ rfl).mono hle).reads) (by simp) hcl.plain hpos (by decide) (by omega) (by decide) .free rfl ?_; intro bc sp cc hB'
   have hcc : (Ex.lt z a b).tree.parts.length ≤ cc := by have := hB'.2.1; omega
   refine C3 (t := 50) (v' := .slice (some ⟨bc, 0, none⟩) (Ex.lt z a b).tree.parts.length cc) rfl (by rw [Nat.zero_add]) ?_
   simp only [List.nil_append]
   simp only [show (Ex.lt z a b).tree.parts = [.node C4 [], .node z [], a.tree, b.tree] from rfl, Co, List.cons_append, List.nil_append]
   refine Bn rfl rfl rfl .free rfl ?_; refine Ax .free rfl ?_; intro b8; refine Bk rfl rfl rfl rfl .free ?_; refine Aa (Ab ?_); refine B8 9 rfl rfl ?_; refine Da 0 rfl (Ag rfl) ?_; refine Dt 1 [8] rfl (Bd rfl) ?_; refine Da 2 rfl (Ae rfl) ?_; refine Da 3 rfl (Ae rfl) ?_
   first | refine Da 4 rfl (A1 rfl rfl _ rfl) ?_ | refine Da 4 rfl (A2 rfl rfl _ rfl) ?_
   refine Dt 5 [8] rfl (Gl rfl) ?_; refine Dt 6 [8] rfl (Bx rfl) ?_
   first | refine Da 7 rfl (A1 rfl rfl _ rfl) ?_ | refine Da 7 rfl (A2 rfl rfl _ rfl) ?_
   refine Dx 8 rfl rfl rfl rfl ?_; refine Ao (by kernel_rfl) ?_; refine Se rfl ?_; refine Az rfl .free rfl ?_; refine Om rfl ?_; refine Bk rfl rfl rfl rfl .free ?_; refine Oa rfl (Aa ?_); refine Bg (fun w h => h.f1) (Be ?_); intro hz
   have hf := hf.mono hz
   refine Ad (.c rfl (.tmp rfl .nil)) ?_; refine ⟨_, L, hle.trans hz, Ay, .node [] [.node C4 [], .node z [], t1, b.tree], [.string (str []), .slice (some ⟨bc, 0, none⟩) (Ex.lt z a b).tree.parts.length cc], ?_, .mk' rfl (.cons (hf.as 0 (.node C4 []) (by omega) rfl) (.cons (hf.as 1 (.node z []) (by omega) rfl) (.cons (hr.mono hz) (.cons (hf.as 3 (b.tree) (by omega) rfl) (.nil))))) (fun y hy => by cases hy; exact A5 (xs := [_, _, _, _, _, _, _, _])) (by simp) hcc (by simp [As]) hp, ?_, rfl⟩
   ·rw [C9 hst]; rfl
   ·intro e' he'; rw [hst] at he'; obtain ⟨q, hq, rfl⟩ := Option.map_eq_some_iff.1 he'; rw [hte q hq]; rfl
  ·skip
   refine B9 12 rfl rfl .free rfl (.inr Am) ?_; intro b6; refine Dc 8 rfl rfl (ihn (by omega) (hf.as 2 a.tree (by omega) rfl) hok.1.2 _) ?_; rintro _ J1 _ e1 ⟨t1, cs1, rfl, hr, hte, rfl⟩; obtain ⟨o1, k1, _, rfl, -⟩ := hr.open
   have hf := hf.mono e1
   have hle := hle.trans e1
   have hk := hk.mono e1
   refine Hx ?_; refine Da 9 rfl (Ae rfl) ?_; refine Da 10 rfl (Bh rfl rfl) ?_; refine Da 11 rfl (Bh rfl rfl) ?_; refine Dx 13 rfl rfl rfl rfl ?_; refine Db 14 rfl (Aw rfl) ?_; refine Ao (by kernel_rfl) ?_; refine Se rfl ?_; refine Dp .free rfl ?_; intro b47; refine Oh rfl ?_; refine A6 rfl .free rfl ?_
   refine C2 (B := some (b47, [])) (xs := []) (ys := Co oaf cf 0 (Ex.lt z a b).tree.parts) (m := 0) (c := 0) (by intro kk; simp) (by rfl) rfl rfl ⟨rfl, Nat.le_refl _, rfl⟩ (fun _ h => h) (by have := hcl.length; omega) (fun a ha => by cases ha; exact ((hcs _ rfl).mono hle).reads) (by simp) hcl.plain hpos (by decide) (by omega) (by decide) .free rfl ?_; intro bc sp cc hB'
   have hcc : (Ex.lt z a b).tree.parts.length ≤ cc := by have := hB'.2.1; omega
   refine C3 (t := 50) (v' := .slice (some ⟨bc, 0, none⟩) (Ex.lt z a b).tree.parts.length cc) rfl (by rw [Nat.zero_add]) ?_
   simp only [List.nil_append]
   simp only [show (Ex.lt z a b).tree.parts = [.node C4 [], .node z [], a.tree, b.tree] from rfl, Co, List.cons_append, List.nil_append]
   refine Bn rfl rfl rfl .free rfl ?_; refine Ax .free rfl ?_; intro b8; refine Bk rfl rfl rfl rfl .free ?_; refine Aa (Ab ?_); refine B8 9 rfl rfl ?_; refine Da 0 rfl (Ag rfl) ?_; refine Dt 1 [8] rfl (Bd rfl) ?_; refine Da 2 rfl (Ae rfl) ?_; refine Da 3 rfl (Ae rfl) ?_
   first | refine Da 4 rfl (A1 rfl rfl _ rfl) ?_ | refine Da 4 rfl (A2 rfl rfl _ rfl) ?_
   refine Dt 5 [8] rfl (Gl rfl) ?_; refine Dt 6 [8] rfl (Bx rfl) ?_
   first | refine Da 7 rfl (A1 rfl rfl _ rfl) ?_ | refine Da 7 rfl (A2 rfl rfl _ rfl) ?_
   refine Dx 8 rfl rfl rfl rfl ?_; refine Ao (by kernel_rfl) ?_; refine Se rfl ?_; refine Az rfl .free rfl ?_; refine Om rfl ?_; refine Bk rfl rfl rfl rfl .free ?_; refine Oa rfl (Aa ?_); refine Bg (fun w h => h.f1) (Be ?_); intro hz
   have hf := hf.mono hz
   refine Ad (.c rfl (.tmp rfl .nil)) ?_; refine ⟨_, L, hle.trans hz, Ay, .node [] [.node C4 [], .node z [], t1, b.tree], [.string (str []), .slice (some ⟨bc, 0, none⟩) (Ex.lt z a b).tree.parts.length cc], ?_, .mk' rfl (.cons (hf.as 0 (.node C4 []) (by omega) rfl) (.cons (hf.as 1 (.node z []) (by omega) rfl) (.cons (hr.mono hz) (.cons (hf.as 3 (b.tree) (by omega) rfl) (.nil))))) (fun y hy => by cases hy; exact A5 (xs := [_, _, _, _, _, _, _, _])) (by simp) hcc (by simp [As]) hp, ?_, rfl⟩
   ·rw [C9 hst]; rfl
   ·intro e' he'; rw [hst] at he'; obtain ⟨q, hq, rfl⟩ := Option.map_eq_some_iff.1 he'; rw [hte q hq]; rfl
 intro c2
 try simp only [nb] at c2
 have hva : a.value = true := by simpa using c2
 refine Af (Al (Ah rfl (Om rfl ?_))); refine Or rfl rfl rfl ?_; refine Oa rfl (Aa ?_); refine Bu ?_; refine Ab (Se rfl (Om rfl (Om rfl (On rfl (Oc rfl rfl rfl (Aa ?_)))))); refine Cr rfl (by first | rfl | decide | (simp; done) | omega) ?_; refine Bw rfl ?_; refine Se rfl ?_; refine Az rfl .free rfl ?_; refine Ca rfl (Aap hf.rep hok0 _) ?_; rintro _ J1 _ e1 ⟨t1, cs1, rfl, hr, hte, rfl⟩; obtain ⟨o1, k1, _, rfl, -⟩ := hr.open
 have hle := hle.trans e1
 have hturn : (Ex.lt z a b).step = (Ex.lt z a b).turn := by simp only [Ex.step, hva, Bool.true_eq_false, if_false]
 refine Oe rfl rfl (Oe rfl rfl ?_); refine Bk rfl rfl rfl rfl .free ?_; refine Oa rfl (Aa ?_); refine Ad (.c rfl (.tmp rfl .nil)) ?_
 exact ⟨_, L, hle, Ay, t1, _, by rw [hturn]; rfl, hr, by rw [hturn]; exact hte, rfl⟩
set_option maxHeartbeats 1000000 in
theorem Aal {N : Nat} (ihn : Q4 N) {g z : Au} {s t : Ty} {b : Ex} {I : Heap} {cs : List Value} (hlt : SizeOf.sizeOf (Ex.fn g z s t b) < N + 1) (h : Rep I (Ex.fn g z s t b).tree cs) (hok : (Ex.fn g z s t b).ok = true) (L : Bl) :
  Fun Tryz.prog 68 [.agg cs.toArray] I L (SP (Ex.fn g z s t b).step L) := by
 obtain ⟨oa, c, oaf, cf, rfl, hf, hcl, hcs⟩ := h.cells
 have hpos : 0 < (Ex.fn g z s t b).tree.parts.length := by show 0 < 6; decide
 obtain ⟨xa, rfl⟩ : ∃ xa, oa = some xa := ⟨_, Cq hf.nil hpos⟩
 have hlen : (Ex.fn g z s t b).tree.parts.length = 6 := rfl
 have hp := hf.len
 have hp2 := hp
 unfold As at hp2
 have hev : Zl [102, 117, 110] = [] := rfl
 have hat : (Ex.fn g z s t b).tree.atom = [] := rfl
 simp only [Ex.fn.sizeOf_spec] at hlt
 have hok0 := hok
 simp only [Ex.ok, Bool.and_eq_true, decide_eq_true_eq] at hok
 refine Ai (by simp) ?_; refine Se rfl ?_; refine Cd rfl rfl .free rfl ?_; intro b1; refine Ax .free rfl ?_; intro b2; refine Oa rfl (Aa (Ab (Se rfl (Oh rfl ?_)))); refine A6 rfl .free rfl ?_; refine Od rfl rfl rfl (Aa ?_)
 first | refine Lz rfl (by simp [hat]) ?_ | refine Ly rfl (by simp [hat]) ?_ | refine Ap (by simp [look, Ba, *]) ?_
 refine Af (Se rfl (Oh rfl ?_)); refine A6 rfl .free rfl ?_
 first | refine A3 rfl rfl 0 rfl .free rfl ?_ | refine A4 rfl rfl 0 rfl .free rfl ?_
 refine Av rfl .free rfl ?_; refine Dk rfl .free rfl ?_; refine C3 (t := 17) (v' := .string (str [102, 117, 110])) rfl rfl ?_; refine Ca rfl (Ju [102, 117, 110] _ _) ?_; rintro _ J0 _ e0 ⟨ok, ck, rfl, hk, rfl⟩
 have hf := hf.mono e0
 have hle := e0
 rw [hev] at hk; rw [hev]; refine Oa rfl (Aa (Ab (Se rfl (Oa rfl (Aa (Aj ?_)))))); refine Dq ?_; refine Ab (Se rfl (Om rfl (Om rfl (On rfl (Oc rfl rfl rfl (Aa ?_)))))); refine Cr rfl (by first | rfl | decide | (simp; done) | omega) ?_; refine Bw rfl ?_; refine Se rfl ?_; refine Az rfl .free rfl ?_; refine Ca rfl (Aao hf.rep hok0 _) ?_; rintro _ J1 _ e1 ⟨t1, cs1, rfl, hr, hte, rfl⟩; obtain ⟨o1, k1, _, rfl, -⟩ := hr.open
 have hle := hle.trans e1
 have hturn : (Ex.fn g z s t b).step = (Ex.fn g z s t b).turn := rfl
 refine Oe rfl rfl (Oe rfl rfl ?_); refine Bk rfl rfl rfl rfl .free ?_; refine Oa rfl (Aa ?_); refine Ad (.c rfl (.tmp rfl .nil)) ?_
 exact ⟨_, L, hle, Ay, t1, _, by rw [hturn]; rfl, hr, by rw [hturn]; exact hte, rfl⟩
set_option maxHeartbeats 1000000 in
theorem Aan {N : Nat} (ihn : Q4 N) {o : U2} {a : Ex} {I : Heap} {cs : List Value} (hlt : SizeOf.sizeOf (Ex.un o a) < N + 1) (h : Rep I (Ex.un o a).tree cs) (hok : (Ex.un o a).ok = true) (L : Bl) :
  Fun Tryz.prog 68 [.agg cs.toArray] I L (SP (Ex.un o a).step L) := by
 obtain ⟨oa, c, oaf, cf, rfl, hf, hcl, hcs⟩ := h.cells
 have hpos : 0 < (Ex.un o a).tree.parts.length := by show 0 < 2; decide
 obtain ⟨xa, rfl⟩ : ∃ xa, oa = some xa := ⟨_, Cq hf.nil hpos⟩
 have hlen : (Ex.un o a).tree.parts.length = 2 := rfl
 have hp := hf.len
 have hp2 := hp
 unfold As at hp2
 have hev : Zl o.txt = [1] := by cases o <;> rfl
 have hat : (Ex.un o a).tree.atom = [] := rfl
 simp only [Ex.un.sizeOf_spec] at hlt
 have hok0 := hok
 simp only [Ex.ok, Bool.and_eq_true, decide_eq_true_eq] at hok
 refine Ai (by simp) ?_; refine Se rfl ?_; refine Cd rfl rfl .free rfl ?_; intro b1; refine Ax .free rfl ?_; intro b2; refine Oa rfl (Aa (Ab (Se rfl (Oh rfl ?_)))); refine A6 rfl .free rfl ?_; refine Od rfl rfl rfl (Aa ?_)
 first | refine Lz rfl (by simp [hat]) ?_ | refine Ly rfl (by simp [hat]) ?_ | refine Ap (by simp [look, Ba, *]) ?_
 refine Af (Se rfl (Oh rfl ?_)); refine A6 rfl .free rfl ?_
 first | refine A3 rfl rfl 0 rfl .free rfl ?_ | refine A4 rfl rfl 0 rfl .free rfl ?_
 refine Av rfl .free rfl ?_; refine Dk rfl .free rfl ?_; refine C3 (t := 17) (v' := .string (str o.txt)) rfl rfl ?_; refine Ca rfl (Ju o.txt _ _) ?_; rintro _ J0 _ e0 ⟨ok, ck, rfl, hk, rfl⟩
 have hf := hf.mono e0
 have hle := e0
 rw [hev] at hk; rw [hev]; refine Oa rfl (Aa (Ab (Se rfl (Oa rfl (Aa (Aj ?_)))))); refine Dq ?_; refine Ab (Se rfl (Om rfl (Om rfl (On rfl (Oc rfl rfl rfl (Aa ?_)))))); refine B6 rfl (by first | rfl | decide | (simp; done) | omega) ?_; refine Af (Ab (Aj (Ab ?_))); refine B8 10 rfl rfl ?_; refine Da 0 rfl (Ag rfl) ?_; refine Dt 1 [10] rfl (Bd rfl) ?_; refine Da 2 rfl (Ae rfl) ?_; refine Da 3 rfl (Ae rfl) ?_
 first | refine Da 4 rfl (A1 rfl rfl _ rfl) ?_ | refine Da 4 rfl (A2 rfl rfl _ rfl) ?_
 refine Dt 5 [10] rfl (Gl rfl) ?_
 first | refine Da 6 rfl (A1 rfl rfl _ rfl) ?_ | refine Da 6 rfl (A2 rfl rfl _ rfl) ?_
 refine Dt 7 [10] rfl (A8 rfl) ?_; refine Dc 8 rfl rfl (Mg _ (Nat.lt_succ_self _) (hf.as 1 a.tree (by omega) rfl) hok _) ?_; rintro _ _ _ _ ⟨rfl, rfl, rfl⟩; refine Hx ?_; refine Da 9 rfl (Lk rfl) ?_; refine Ao (by kernel_rfl) ?_; refine Ar rfl ?_ ?_
 ·intro c2
  try simp only [nb] at c2
  have hva : a.value = false := by simpa using c2
  have hst : (Ex.un o a).step = a.step.map fun q => .un o q := by simp only [Ex.step, hva, if_true]
  refine Ab ?_; refine B8 15 rfl rfl ?_; refine Da 0 rfl (Ag rfl) ?_; refine Dt 1 [13] rfl (Bd rfl) ?_; refine Da 2 rfl (Ae rfl) ?_; refine Da 3 rfl (Ae rfl) ?_
  first | refine Da 4 rfl (A1 rfl rfl _ rfl) ?_ | refine Da 4 rfl (A2 rfl rfl _ rfl) ?_
  refine Dt 5 [13] rfl (Gl rfl) ?_
  first | refine Da 6 rfl (A1 rfl rfl _ rfl) ?_ | refine Da 6 rfl (A2 rfl rfl _ rfl) ?_
  refine Dt 7 [13] rfl (A8 rfl) ?_; refine Cm 8 12 (by kernel_rfl) ?_ ?_
  ·skip
   refine Fk 8 rfl rfl rfl .free rfl (ihn (by omega) (hf.as 1 a.tree (by omega) rfl) hok _) ?_; rintro _ J1 _ e1 ⟨t1, cs1, rfl, hr, hte, rfl⟩; obtain ⟨o1, k1, _, rfl, -⟩ := hr.open
   have hf := hf.mono e1
   have hle := hle.trans e1
   have hk := hk.mono e1
   refine Hx ?_; refine Da 9 rfl (Ae rfl) ?_; refine Da 10 rfl (Bh rfl rfl) ?_; refine Da 11 rfl (Bh rfl rfl) ?_; refine Dz 12 rfl (by kernel_rfl) rfl .free rfl (.inr Am) ?_; intro b6; refine Dx 13 rfl rfl rfl rfl ?_; refine Db 14 rfl (Aw rfl) ?_; refine Ao (by kernel_rfl) ?_; refine Se rfl ?_; refine Dp .free rfl ?_; intro b47; refine Oh rfl ?_; refine A6 rfl .free rfl ?_
   refine C2 (B := some (b47, [])) (xs := []) (ys := Co oaf cf 0 (Ex.un o a).tree.parts) (m := 0) (c := 0) (by intro kk; simp) (by rfl) rfl rfl ⟨rfl, Nat.le_refl _, rfl⟩ (fun _ h => h) (by have := hcl.length; omega) (fun a ha => by cases ha; exact ((hcs _ rfl).mono hle).reads) (by simp) hcl.plain hpos (by decide) (by omega) (by decide) .free rfl ?_; intro bc sp cc hB'
   have hcc : (Ex.un o a).tree.parts.length ≤ cc := by have := hB'.2.1; omega
   refine C3 (t := 50) (v' := .slice (some ⟨bc, 0, none⟩) (Ex.un o a).tree.parts.length cc) rfl (by rw [Nat.zero_add]) ?_
   simp only [List.nil_append]
   simp only [show (Ex.un o a).tree.parts = [.node o.txt [], a.tree] from rfl, Co, List.cons_append, List.nil_append]
   refine Bn rfl rfl rfl .free rfl ?_; refine Ax .free rfl ?_; intro b8; refine Bk rfl rfl rfl rfl .free ?_; refine Aa (Ab ?_); refine B8 9 rfl rfl ?_; refine Da 0 rfl (Ag rfl) ?_; refine Dt 1 [8] rfl (Bd rfl) ?_; refine Da 2 rfl (Ae rfl) ?_; refine Da 3 rfl (Ae rfl) ?_
   first | refine Da 4 rfl (A1 rfl rfl _ rfl) ?_ | refine Da 4 rfl (A2 rfl rfl _ rfl) ?_
   refine Dt 5 [8] rfl (Gl rfl) ?_; refine Dt 6 [8] rfl (Bx rfl) ?_
   first | refine Da 7 rfl (A1 rfl rfl _ rfl) ?_ | refine Da 7 rfl (A2 rfl rfl _ rfl) ?_
   refine Dx 8 rfl rfl rfl rfl ?_; refine Ao (by kernel_rfl) ?_; refine Se rfl ?_; refine Az rfl .free rfl ?_; refine Om rfl ?_; refine Bk rfl rfl rfl rfl .free ?_; refine Oa rfl (Aa ?_); refine Bg (fun w h => h.f1) (Be ?_); intro hz
   have hf := hf.mono hz
   refine Ad (.c rfl (.tmp rfl .nil)) ?_; refine ⟨_, L, hle.trans hz, Ay, .node [] [.node o.txt [], t1], [.string (str []), .slice (some ⟨bc, 0, none⟩) (Ex.un o a).tree.parts.length cc], ?_, .mk' rfl (.cons (hf.as 0 (.node o.txt []) (by omega) rfl) (.cons (hr.mono hz) (.nil))) (fun y hy => by cases hy; exact A5 (xs := [_, _, _, _])) (by simp) hcc (by simp [As]) hp, ?_, rfl⟩
   ·rw [C9 hst]; rfl
   ·intro e' he'; rw [hst] at he'; obtain ⟨q, hq, rfl⟩ := Option.map_eq_some_iff.1 he'; rw [hte q hq]; rfl
  ·skip
   refine B9 12 rfl rfl .free rfl (.inr Am) ?_; intro b6; refine Dc 8 rfl rfl (ihn (by omega) (hf.as 1 a.tree (by omega) rfl) hok _) ?_; rintro _ J1 _ e1 ⟨t1, cs1, rfl, hr, hte, rfl⟩; obtain ⟨o1, k1, _, rfl, -⟩ := hr.open
   have hf := hf.mono e1
   have hle := hle.trans e1
   have hk := hk.mono e1
   refine Hx ?_; refine Da 9 rfl (Ae rfl) ?_; refine Da 10 rfl (Bh rfl rfl) ?_; refine Da 11 rfl (Bh rfl rfl) ?_; refine Dx 13 rfl rfl rfl rfl ?_; refine Db 14 rfl (Aw rfl) ?_; refine Ao (by kernel_rfl) ?_; refine Se rfl ?_; refine Dp .free rfl ?_; intro b47; refine Oh rfl ?_; refine A6 rfl .free rfl ?_
   refine C2 (B := some (b47, [])) (xs := []) (ys := Co oaf cf 0 (Ex.un o a).tree.parts) (m := 0) (c := 0) (by intro kk; simp) (by rfl) rfl rfl ⟨rfl, Nat.le_refl _, rfl⟩ (fun _ h => h) (by have := hcl.length; omega) (fun a ha => by cases ha; exact ((hcs _ rfl).mono hle).reads) (by simp) hcl.plain hpos (by decide) (by omega) (by decide) .free rfl ?_; intro bc sp cc hB'
   have hcc : (Ex.un o a).tree.parts.length ≤ cc := by have := hB'.2.1; omega
   refine C3 (t := 50) (v' := .slice (some ⟨bc, 0, none⟩) (Ex.un o a).tree.parts.length cc) rfl (by rw [Nat.zero_add]) ?_
   simp only [List.nil_append]
   simp only [show (Ex.un o a).tree.parts = [.node o.txt [], a.tree] from rfl, Co, List.cons_append, List.nil_append]
   refine Bn rfl rfl rfl .free rfl ?_; refine Ax .free rfl ?_; intro b8; refine Bk rfl rfl rfl rfl .free ?_; refine Aa (Ab ?_); refine B8 9 rfl rfl ?_; refine Da 0 rfl (Ag rfl) ?_; refine Dt 1 [8] rfl (Bd rfl) ?_; refine Da 2 rfl (Ae rfl) ?_; refine Da 3 rfl (Ae rfl) ?_
   first | refine Da 4 rfl (A1 rfl rfl _ rfl) ?_ | refine Da 4 rfl (A2 rfl rfl _ rfl) ?_
   refine Dt 5 [8] rfl (Gl rfl) ?_; refine Dt 6 [8] rfl (Bx rfl) ?_
   first | refine Da 7 rfl (A1 rfl rfl _ rfl) ?_ | refine Da 7 rfl (A2 rfl rfl _ rfl) ?_
   refine Dx 8 rfl rfl rfl rfl ?_; refine Ao (by kernel_rfl) ?_; refine Se rfl ?_; refine Az rfl .free rfl ?_; refine Om rfl ?_; refine Bk rfl rfl rfl rfl .free ?_; refine Oa rfl (Aa ?_); refine Bg (fun w h => h.f1) (Be ?_); intro hz
   have hf := hf.mono hz
   refine Ad (.c rfl (.tmp rfl .nil)) ?_; refine ⟨_, L, hle.trans hz, Ay, .node [] [.node o.txt [], t1], [.string (str []), .slice (some ⟨bc, 0, none⟩) (Ex.un o a).tree.parts.length cc], ?_, .mk' rfl (.cons (hf.as 0 (.node o.txt []) (by omega) rfl) (.cons (hr.mono hz) (.nil))) (fun y hy => by cases hy; exact A5 (xs := [_, _, _, _])) (by simp) hcc (by simp [As]) hp, ?_, rfl⟩
   ·rw [C9 hst]; rfl
   ·intro e' he'; rw [hst] at he'; obtain ⟨q, hq, rfl⟩ := Option.map_eq_some_iff.1 he'; rw [hte q hq]; rfl
 intro c2
 try simp only [nb] at c2
 have hva : a.value = true := by simpa using c2
 refine Af (Al (Ah rfl (Om rfl ?_))); refine Or rfl rfl rfl ?_; refine Oa rfl (Aa ?_); refine Bu ?_; refine Ab (Se rfl (Om rfl (Om rfl (On rfl (Oc rfl rfl rfl (Aa ?_)))))); refine Cr rfl (by first | rfl | decide | (simp; done) | omega) ?_; refine Bw rfl ?_; refine Se rfl ?_; refine Az rfl .free rfl ?_; refine Ca rfl (Aaq hf.rep hok0 _) ?_; rintro _ J1 _ e1 ⟨t1, cs1, rfl, hr, hte, rfl⟩; obtain ⟨o1, k1, _, rfl, -⟩ := hr.open
 have hle := hle.trans e1
 have hturn : (Ex.un o a).step = (Ex.un o a).turn := by simp only [Ex.step, hva, Bool.true_eq_false, if_false]
 refine Oe rfl rfl (Oe rfl rfl ?_); refine Bk rfl rfl rfl rfl .free ?_; refine Oa rfl (Aa ?_); refine Ad (.c rfl (.tmp rfl .nil)) ?_
 exact ⟨_, L, hle, Ay, t1, _, by rw [hturn]; rfl, hr, by rw [hturn]; exact hte, rfl⟩
theorem P7 {e : Ex} (hb : e.bare = true) {I : Heap} {cs : List Value} (h : Rep I e.tree cs) (hok : e.ok = true) (L : Bl) : Fun Tryz.prog 68 [.agg cs.toArray] I L (SP e.step L) := by
 obtain ⟨oa, c, oaf, cf, rfl, hf⟩ := h.at'
 have hno : e.step = none := by cases e <;> first | rfl | cases hb
 have hat : ¬ e.tree.atom = [] := fun h => by rw [(e.atom_iff hok).1 h] at hb; cases hb
 refine Ai (by simp) ?_; refine Se rfl ?_; refine Cd rfl rfl .free rfl ?_; intro b1; refine Ax .free rfl ?_; intro b2; refine Oa rfl (Aa (Ab (Se rfl (Oh rfl ?_)))); refine A6 rfl .free rfl ?_; refine Od rfl rfl rfl (Aa ?_)
 first | refine Ks rfl (by simpa using hat) ?_ | refine Kr rfl (by simpa using hat) ?_ | refine Bj (by simp [look, Ba, *]) ?_
 refine Se rfl ?_; refine Az rfl .free rfl ?_; refine Bk rfl rfl rfl rfl .free ?_; refine Oa rfl (Aa ?_); refine Ad (.c rfl (.tmp rfl .nil)) ?_
 exact ⟨_, L, .refl _, Ay, SP.same hf.rep hno⟩
theorem Yj : ∀ N : Nat, Q4 N := by
 intro N
 induction N with
 | zero => intro I e cs h; omega
 | succ N ihn =>
  intro I e cs hlt h hok L
  cases e with
  | num s => exact P7 rfl h hok L
  | name s => exact P7 rfl h hok L
  | bin o p q => exact Yl ihn hlt h hok L
  | ite p q r => exact Ym ihn hlt h hok L
  | lt z p q => exact Aam ihn hlt h hok L
  | fn h1 z s u q => exact Aal ihn hlt h hok L
  | un o p => exact Aan ihn hlt h hok L
theorem Us {I : Heap} {e : Ex} {cs : List Value} (h : Rep I e.tree cs) (hok : e.ok = true) (L : Bl) : Fun Tryz.prog 68 [.agg cs.toArray] I L (SP e.step L) := Yj _ (Nat.lt_succ_self _) h hok L
theorem Aes (s : Au) : (E9 s = none ∧ B7 s = none) ∨ (∃ e, E9 s = some e ∧ B7 s = none) ∨ (∃ e, E9 s = some e ∧ B7 s = some e ∧ e.step = none) ∨ (∃ e e', E9 s = some e ∧ B7 s = some e ∧ e.step = some e') := by
 cases hx : E9 s with
 | none => exact .inl ⟨rfl, by unfold B7; rw [hx]⟩
 | some e =>
  cases hc : B7 s with
  | none => exact .inr (.inl ⟨e, rfl, rfl⟩)
  | some e2 =>
   obtain rfl := Option.some.inj ((Gu hc).1.symm.trans hx)
   cases hs : e2.step with
   | none => exact .inr (.inr (.inl ⟨e2, rfl, rfl, hs⟩))
   | some e' => exact .inr (.inr (.inr ⟨e2, e', rfl, rfl, hs⟩))
theorem Abl {e e' : Ex} (hok : e.ok = true) (hz : e.size ≤ 120) (h : e.step = some e') : e'.tree.len ≤ 12000000 := by
 have h1 := Ex.len_size (Ex.step_ok hok h)
 have h2 := Ex.step_size hz h
 omega
theorem Ab5 {e : Ex} (h : e.step = none) : e.go = none := by unfold Ex.go; rw [h]; split <;> rfl
theorem Adx {e e' : Ex} (h : e.step = some e') : e.go = if e'.fine = true then some e' else none := by
 unfold Ex.go
 rw [if_neg (by rw [Gj h]; simp), h]; rfl
theorem SP.go {I : Heap} {e e' : Ex} {ds : List Value} {L : Bl} (hs : e.step = some e') (h : Rep I e'.tree ds) : SP e.go L (.tuple #[.agg (List.toArray ds), .bool e'.fine]) I L := by
 rw [Adx hs]
 cases hf : e'.fine with
 | true => exact ⟨_, ds, rfl, h, fun e2 h2 => by obtain rfl := Option.some.inj h2; rfl, rfl⟩
 | false => exact SP.same h rfl
theorem Pu {I : Heap} (ht : Tab I) {e : Ex} {cs : List Value} (h : Rep I e.tree cs) (hok : e.ok = true) (hz : e.size ≤ 120) (L : Bl) : Fun Tryz.prog 57 [.agg cs.toArray] I L (SP e.go L) := by
 obtain ⟨oa, c, oaf, cf, rfl, hf⟩ := h.at'; refine Ai (by simp) ?_; refine Se rfl ?_; refine Cd rfl rfl .free rfl ?_; intro b1; refine Ax .free rfl ?_; intro b2; refine Oa rfl (Aa (Ab (Se rfl ?_))); refine Az rfl .free rfl ?_; refine Ca rfl (E6 _ (Nat.lt_succ_self _) hf.rep hok _) ?_; rintro _ _ _ _ ⟨rfl, rfl, rfl⟩; refine Aa ?_; refine Ar rfl ?_ ?_
 ·intro c0
  try simp only [nb] at c0
  refine Se rfl ?_; refine Bn rfl rfl rfl .free rfl ?_; refine Bk rfl rfl rfl rfl .free ?_; refine Oa rfl (Aa ?_); refine Ad (.c rfl (.tmp rfl .nil)) ?_
  exact ⟨_, L, .refl _, Ay, SP.none' (by unfold Ex.go; rw [if_pos c0])⟩
 intro c0
 try simp only [nb] at c0
 refine Af (Se rfl ?_); refine Az rfl .free rfl ?_; refine Ca rfl (Ou ht hf.rep hok _) ?_; rintro _ J1 _ e1 ⟨t1, cs1, rfl, hr, hte, rfl⟩; obtain ⟨o1, k1, _, rfl, -⟩ := hr.open; refine Om rfl (Oe rfl rfl (Oe rfl rfl ?_)); refine Ax .free rfl ?_; intro b4; refine Bk rfl rfl rfl rfl .free ?_; refine Oa rfl (Aa (Ab ?_))
 rcases hs : e.step with _ | e'
 ·skip
  have hgo := Ab5 hs
  refine B8 8 rfl rfl ?_; refine Dt 0 [6] rfl (Bx rfl) ?_; refine Da 1 rfl (Ae rfl) ?_; refine Da 2 rfl (Ae rfl) ?_; refine Ei (t := 16) rfl (v' := .bool false) (by first | simp [*] | (simp; omega)) ?_; refine Ds 3 rfl rfl rfl ?_; refine Ds 4 rfl rfl rfl ?_; refine Da 5 rfl (C7 rfl rfl) ?_; refine Dx 6 rfl rfl rfl rfl ?_; refine Db 7 rfl (Aw rfl) ?_; refine Ao (by kernel_rfl) ?_; refine Ad (.c rfl (.tmp rfl .nil)) ?_
  exact ⟨J1, L, e1, Ay, SP.same hr hgo⟩
 ·skip
  obtain rfl := hte e' hs
  have hl2 := Abl hok hz hs
  refine B8 8 rfl rfl ?_; refine Dt 0 [6] rfl (Bx rfl) ?_; refine Da 1 rfl (Ae rfl) ?_; refine Da 2 rfl (Ae rfl) ?_; refine Ei (t := 16) rfl (v' := .bool true) (by first | simp [*] | (simp; omega)) ?_; refine Eo 3 [4, 6] rfl (by kernel_rfl) rfl Am (Bx rfl) (.met rfl rfl) rfl ?_; refine Ga 4 rfl (by kernel_rfl) rfl rfl (.met rfl rfl) rfl (Ac6 hr (Ex.step_ok hok hs) hl2 _) ?_; rintro _ _ _ _ ⟨rfl, rfl, rfl⟩; refine Hx ?_; refine Da 5 rfl (Dg rfl rfl) ?_; refine Dx 6 rfl rfl rfl rfl ?_; refine Db 7 rfl (Aw rfl) ?_; refine Ao (by kernel_rfl) ?_; refine Ad (.c rfl (.tmp rfl .nil)) ?_
  exact ⟨J1, L, e1, Ay, SP.go hs hr⟩
theorem X9 {e : Ex} (h : e.fine = true) : e.ok = true ∧ e.size ≤ 120 ∧ e.tree.len ≤ 12000 := by
 simp only [Ex.fine, Tree.fits, Bool.and_eq_true, decide_eq_true_eq] at h
 exact ⟨h.1.1, h.1.2, h.2.2⟩
theorem Ac5 (s : Au) (hs : s.length ≤ As) {I : Heap} (ht : Tab I) (L : Bl) : Fun Tryz.prog 25 [.string (str s)] I L (EL (N6 s) L) := by
 refine Ai (by simp) ?_; refine Se rfl (Oa rfl (Oa rfl (Aa (Se rfl (Om rfl ?_))))); refine Ca rfl (Ik s hs _ _) ?_; rintro _ J _ hleJ ⟨t, cs, ok, rfl, hrep, rfl, hpf⟩; obtain ⟨oc, cc, _, rfl, -⟩ := hrep.open
 have g1 := V1 hpf
 refine Om rfl (Oe rfl rfl (Oe rfl rfl ?_)); refine Ax .free rfl ?_; intro b4; refine Bk rfl rfl rfl rfl .free ?_; refine Oa rfl (Aa (Ab (Se rfl (Om rfl ?_)))); refine Ck rfl .free rfl ?_; refine Aa ?_; refine Ar rfl ?_ ?_
 ·intro c0
  try simp only [nb] at c0
  refine Se rfl (Oa rfl (Oa rfl (Aa ?_))); refine Ad (.tmp rfl (.tmp rfl .nil)) ?_
  exact ⟨J, L, hleJ, Ay, by rw [Vl (g1.1 c0)]; rfl, rfl⟩
 intro c0
 try simp only [nb] at c0
 obtain ⟨e, he, rfl⟩ := g1.2 (by simpa using c0); obtain ⟨hx, hok, hz, hl, hcl⟩ := En he
 have hst := O5 he
 refine Af (Se rfl ?_); refine Az rfl .free rfl ?_; refine Ca rfl (Pu (ht.mono hleJ) hrep hok hz _) ?_; rintro _ J2 _ e2 ⟨t1, cs1, rfl, hr, hte, rfl⟩; obtain ⟨o1, k1, _, rfl, -⟩ := hr.open
 have hle := hleJ.trans e2
 refine Om rfl (Oe rfl rfl (Oe rfl rfl ?_)); refine Ax .free rfl ?_; intro b6; refine Bk rfl rfl rfl rfl .free ?_; refine Oa rfl (Aa (Ab (Se rfl (Om rfl ?_)))); refine Ck rfl .free rfl ?_; refine Aa ?_; refine Ar rfl ?_ ?_
 ·intro c1
  try simp only [nb] at c1
  refine Se rfl (Oa rfl (Oa rfl (Aa ?_))); refine Ad (.tmp rfl (.tmp rfl .nil)) ?_
  have hgo : e.go = none := by
   cases hg : e.go with
   | none => rfl
   | some d => rw [hg] at c1; cases c1
  exact ⟨J2, L, hle, Ay, by rw [hst, hgo]; rfl, rfl⟩
 intro c1
 try simp only [nb] at c1
 obtain ⟨d, hd⟩ : ∃ d, e.go = some d := Option.isSome_iff_exists.1 (by simpa using c1); obtain rfl := hte d hd
 have hfl := (X9 (Ab6 hd).2.2).2.2
 refine Af (Se rfl ?_); refine Az rfl .free rfl ?_; refine Ca rfl (Ov hr (by rw [Tree.text_len]; unfold As; omega) _) ?_; rintro _ _ _ _ ⟨rfl, rfl, rfl⟩; refine Oa rfl (Oa rfl (Aa ?_)); refine Ad (.tmp rfl (.tmp rfl .nil)) ?_
 exact ⟨J2, L, hle, Ay, by rw [hst, hd]; rfl, rfl⟩
theorem Ue (s : Au) (hs : s.length ≤ As) {I : Heap} (ht : Tab I) (L : Bl) : Fun Tryz.prog 23 [.string (str s)] I L (fun v I' L' => v = .bool (Ji s) ∧ L = L') := by
 refine Ai (by simp) ?_; refine Se rfl (Oa rfl (Aa (Se rfl (Om rfl ?_)))); refine Ca rfl (Ik s hs _ _) ?_; rintro _ J _ hleJ ⟨t, cs, ok, rfl, hrep, rfl, hpf⟩; obtain ⟨oc, cc, _, rfl, -⟩ := hrep.open; refine Om rfl (Oe rfl rfl (Oe rfl rfl ?_)); refine Ax .free rfl ?_; intro b3; refine Bk rfl rfl rfl rfl .free ?_; refine Oa rfl (Aa (Ab (Ab ?_)))
 rcases hc : B7 s with _ | e
 ·skip
  rw [hc] at hpf; obtain rfl := hpf; refine Ah rfl (Om rfl ?_); refine Ck rfl .free rfl ?_; refine Om rfl ?_; refine C3 (t := 12) rfl (v' := .bool true) (by first | rfl | simp [*]) ?_; refine Ci rfl rfl rfl ?_; refine Ci rfl rfl rfl ?_; refine Ot rfl rfl (Aa ?_); refine Bj rfl ?_; refine Se rfl (Oa rfl (Aa (Ad (.tmp rfl .nil) ?_)))
  exact ⟨J, L, hleJ, Ay, by rw [Is hc]; rfl, rfl⟩
 ·skip
  rw [hc] at hpf; obtain ⟨rfl, rfl⟩ := hpf; obtain ⟨hx, hok, hz, hl, hcl⟩ := En hc; refine Ah rfl (Om rfl ?_); refine Ck rfl .free rfl ?_; refine Om rfl ?_; refine C3 (t := 12) rfl (v' := .bool false) (by first | rfl | simp [*]) ?_; refine Az rfl (.met rfl rfl) rfl ?_; refine Ce rfl (.met rfl rfl) rfl (E6 _ (Nat.lt_succ_self _) hrep hok _) ?_; rintro _ _ _ _ ⟨rfl, rfl, rfl⟩; refine Of rfl rfl (Aa ?_); refine Ar rfl ?_ ?_
  ·intro c0
   try simp only [nb] at c0
   refine Se rfl (Oa rfl (Aa (Ad (.tmp rfl .nil) ?_)))
   exact ⟨J, L, hleJ, Ay, by rw [Gr hc, show e.value = true from c0]; rfl, rfl⟩
  intro c0
  try simp only [nb] at c0
  have hv : e.value = false := by simpa using c0
  refine Af (Se rfl ?_); refine Az rfl .free rfl ?_; refine Ca rfl (Ou (ht.mono hleJ) hrep hok _) ?_; rintro _ J2 _ e2 ⟨t1, cs1, rfl, hr, hte, rfl⟩; obtain ⟨o1, k1, _, rfl, -⟩ := hr.open; refine Om rfl (Oe rfl rfl (Oe rfl rfl (Oa rfl (Aa (Se rfl (Om rfl ?_)))))); refine Ck rfl .free rfl ?_; refine Oa rfl (Aa (Ad (.tmp rfl .nil) ?_)); refine ⟨J2, L, hleJ.trans e2, Ay, ?_, rfl⟩; rw [Gr hc, hv]
  cases e.step <;> rfl
structure SM where
 e : Ex
 i : Nat
 J : Heap
 o : Option Addr
 k : Nat
def SMr (r : Ex × Nat) (L : Bl) : C1 := fun v I' L' => v = .tuple #[.string (str r.1.tree.text), .int .i64 (r.2 : Nat), .bool true] ∧ L = L'
def MN (o : Option (Au × Nat)) (L : Bl) : C1 := fun v I' L' => v = .tuple #[.string (str ((o.map (·.1)).getD [])), .int .i64 (((o.map (·.2)).getD 0 : Nat)), .bool o.isSome] ∧ L = L'
theorem Up (s : Au) (hs : s.length ≤ Ka) (I : Heap) (L : Bl) : Fun Tryz.prog 24 [.string (str s)] I L (fun v I' L' => v = .bool (Ji s) ∧ L = L') := by
 refine Ai (by simp) ?_; refine Se rfl (Oa rfl (Aa (Se rfl (Om rfl ?_)))); refine Ca rfl (Mf s hs _ _) ?_; rintro _ J _ hleJ ⟨t, cs, ok, rfl, hrep, rfl, hpf⟩; obtain ⟨oc, cc, _, rfl, -⟩ := hrep.open; refine Om rfl (Oe rfl rfl (Oe rfl rfl ?_)); refine Ax .free rfl ?_; intro b3; refine Bk rfl rfl rfl rfl .free ?_; refine Oa rfl (Aa (Ab (Ab ?_)))
 rcases Aes s with ⟨hx, hc⟩ | ⟨e, hx, hc⟩ | ⟨e, hx, hc, hst⟩ | ⟨e, e', hx, hc, hst⟩
 ·skip
  rw [hx] at hpf; obtain rfl := hpf; refine Ah rfl (Om rfl ?_); refine Ck rfl .free rfl ?_; refine Om rfl ?_; refine C3 (t := 14) rfl (v' := .bool true) (by first | rfl | simp [*]) ?_
  iterate 3 refine Ci rfl rfl rfl ?_
  refine Ot rfl rfl (Om rfl ?_); refine Ci rfl rfl rfl ?_; refine Ci rfl rfl rfl ?_; refine Ot rfl rfl (Aa ?_); refine Bj rfl ?_; refine Se rfl (Oa rfl (Aa (Ad (.tmp rfl .nil) ?_)))
  exact ⟨J, L, hleJ, Ay, by rw [Is hc]; rfl, rfl⟩
 ·skip
  rw [hx] at hpf; obtain ⟨rfl, rfl⟩ := hpf; refine Ah rfl (Om rfl ?_); refine Ck rfl .free rfl ?_; refine Om rfl ?_; refine C3 (t := 14) rfl (v' := .bool false) (by first | rfl | simp [*]) ?_; refine Ow rfl ?_; refine Ce rfl (.met rfl rfl) rfl (Kh s hs _ _) ?_; rintro _ _ _ _ ⟨rfl, rfl, rfl⟩; rw [hc]; refine Ck rfl (.met rfl rfl) rfl ?_; refine Of rfl rfl (Om rfl ?_); refine C3 (t := 19) rfl (v' := .bool true) (by first | rfl | simp [*]) ?_; refine Ci rfl rfl rfl ?_; refine Ci rfl rfl rfl ?_; refine Ot rfl rfl (Aa ?_); refine Bj rfl ?_; refine Se rfl (Oa rfl (Aa (Ad (.tmp rfl .nil) ?_)))
  exact ⟨J, L, hleJ, Ay, by rw [Is hc]; rfl, rfl⟩
 ·skip
  rw [hx] at hpf; obtain ⟨rfl, rfl⟩ := hpf; obtain ⟨-, hok, hz, hl, hcl⟩ := En hc; refine Ah rfl (Om rfl ?_); refine Ck rfl .free rfl ?_; refine Om rfl ?_; refine C3 (t := 14) rfl (v' := .bool false) (by first | rfl | simp [*]) ?_; refine Ow rfl ?_; refine Ce rfl (.met rfl rfl) rfl (Kh s hs _ _) ?_; rintro _ _ _ _ ⟨rfl, rfl, rfl⟩; rw [hc]; refine Ck rfl (.met rfl rfl) rfl ?_; refine Of rfl rfl (Om rfl ?_); refine C3 (t := 19) rfl (v' := .bool false) (by first | rfl | simp [*]) ?_; refine Az rfl (.met rfl rfl) rfl ?_; refine Ce rfl (.met rfl rfl) rfl (Mg _ (Nat.lt_succ_self _) hrep hok _) ?_
  rintro _ _ _ _ ⟨rfl, rfl, rfl⟩; refine Of rfl rfl (Aa ?_); refine Ar rfl ?_ ?_
  ·intro c0
   try simp only [nb] at c0
   refine Se rfl (Oa rfl (Aa (Ad (.tmp rfl .nil) ?_)))
   exact ⟨J, L, hleJ, Ay, by rw [Gr hc, show e.value = true from c0]; rfl, rfl⟩
  intro c0
  try simp only [nb] at c0
  refine Af (Se rfl ?_); refine Az rfl .free rfl ?_; refine Ca rfl (Us hrep hok _) ?_; rintro _ J2 _ e2 ⟨t1, cs1, rfl, hr, hte, rfl⟩; obtain ⟨o1, k1, _, rfl, -⟩ := hr.open; rw [hst]; refine Om rfl (Oe rfl rfl (Oe rfl rfl ?_)); refine Ax .free rfl ?_; intro b5; refine Bk rfl rfl rfl rfl .free ?_; refine Oa rfl (Aa (Se rfl (Om rfl ?_))); refine Ck rfl .free rfl ?_; refine Oa rfl (Aa (Ad (.tmp rfl .nil) ?_)); refine ⟨J2, L, hleJ.trans e2, Ay, ?_, rfl⟩; rw [Gr hc, hst, show e.value = false by simpa using c0]; rfl
 ·skip
  rw [hx] at hpf; obtain ⟨rfl, rfl⟩ := hpf; obtain ⟨-, hok, hz, hl, hcl⟩ := En hc; refine Ah rfl (Om rfl ?_); refine Ck rfl .free rfl ?_; refine Om rfl ?_; refine C3 (t := 14) rfl (v' := .bool false) (by first | rfl | simp [*]) ?_; refine Ow rfl ?_; refine Ce rfl (.met rfl rfl) rfl (Kh s hs _ _) ?_; rintro _ _ _ _ ⟨rfl, rfl, rfl⟩; rw [hc]; refine Ck rfl (.met rfl rfl) rfl ?_; refine Of rfl rfl (Om rfl ?_); refine C3 (t := 19) rfl (v' := .bool false) (by first | rfl | simp [*]) ?_; refine Az rfl (.met rfl rfl) rfl ?_; refine Ce rfl (.met rfl rfl) rfl (Mg _ (Nat.lt_succ_self _) hrep hok _) ?_
  rintro _ _ _ _ ⟨rfl, rfl, rfl⟩; rw [Gj hst]; refine Of rfl rfl (Aa ?_)
  first | refine Sf rfl (by simp) ?_ | refine Ap (by simp [look, Ba, *]) ?_
  refine Af (Se rfl ?_); refine Az rfl .free rfl ?_; refine Ca rfl (Us hrep hok _) ?_; rintro _ J2 _ e2 ⟨t1, cs1, rfl, hr, hte, rfl⟩; obtain ⟨o1, k1, _, rfl, -⟩ := hr.open; rw [hst]; refine Om rfl (Oe rfl rfl (Oe rfl rfl ?_)); refine Ax .free rfl ?_; intro b5; refine Bk rfl rfl rfl rfl .free ?_; refine Oa rfl (Aa (Se rfl (Om rfl ?_))); refine Ck rfl .free rfl ?_; refine Oa rfl (Aa (Ad (.tmp rfl .nil) ?_)); refine ⟨J2, L, hleJ.trans e2, Ay, ?_, rfl⟩; rw [Gr hc, hst, Gj hst]; rfl
structure SN where
 e : Ex
 i : Nat
 J : Heap
def Res.fin (r : Res) : Prop := r.v ≠ none ∨ r.stuck = true
def Aej (o : B5) (u w : KV) (q : Nat) : Res := match o, u with
 | .call, .clo f x s t c r => eval q c (.cons x w (.cons f (.clo f x s t c r) r))
 | o, u => .of (o.act u w) q
def Res.at (r : Res) (n m : Nat) : Res := ⟨r.v, m + r.left - n, r.stuck⟩
def Ex.kv (k : KE) : Ex → KV
 | .num s => .num s
 | .bin _ a b => .pair (a.kv k) (b.kv k)
 | .fn f x s t b => .clo f x s t b k
 | _ => .num []
def Ex.cost : Ex → Nat
 | .bin _ a b => 1 + a.cost + b.cost
 | _ => 1
theorem Ex.cost_size : ∀ e : Ex, e.cost ≤ e.size
 | .num _ => Nat.le_refl _
 | .name _ => Nat.le_refl _
 | .bin _ a b => by have := a.cost_size; have := b.cost_size; simp only [Ex.cost, Ex.size]; omega
 | .ite a b c => by simp only [Ex.cost, Ex.size]; omega
 | .lt x a b => by simp only [Ex.cost, Ex.size]; omega
 | .fn f x s t b => by simp only [Ex.cost, Ex.size]; omega
 | .un _ a => by simp only [Ex.cost, Ex.size]; omega
theorem R6 {o : B5} {a b : Ex} (h : (Ex.bin o a b).value = true) : o = .pair ∧ a.value = true ∧ b.value = true := by
 cases o with
 | pair => exact ⟨rfl, by simpa [Ex.value] using h⟩
 | _ => cases h
theorem Hr : ∀ {e : Ex} {n : Nat} (k : KE), e.value = true → e.cost ≤ n → eval n e k = ⟨some (e.kv k), n - e.cost, false⟩
 | .num s, n, k, hv, hn => by
  obtain ⟨n, rfl⟩ : ∃ q, n = q + 1 := ⟨n - 1, by simp only [Ex.cost] at hn; omega⟩; rw [Ps]; rfl
 | .fn f x s t b, n, k, hv, hn => by
  obtain ⟨n, rfl⟩ : ∃ q, n = q + 1 := ⟨n - 1, by simp only [Ex.cost] at hn; omega⟩; rw [Ss]; rfl
 | .bin o a b, n, k, hv, hn => by
  obtain ⟨rfl, ha, hb⟩ := R6 hv
  simp only [Ex.cost] at hn
  obtain ⟨n, rfl⟩ : ∃ q, n = q + 1 := ⟨n - 1, by omega⟩; rw [Hg, Hr k ha (show a.cost ≤ n by omega)]
  simp only
  rw [Hr k hb (show b.cost ≤ n - a.cost by omega)]
  simp only [B5.act, Res.of, Ex.kv, Ex.cost, Option.isNone_some, Res.mk.injEq, and_true, true_and]
  omega
 | .name s, n, k, hv, hn => by cases hv
 | .ite a b c, n, k, hv, hn => by cases hv
 | .lt x a b, n, k, hv, hn => by cases hv
 | .un o a, n, k, hv, hn => by cases hv
theorem Jq : ∀ {e : Ex} {n : Nat}, e.jam → e.occ [] = [] → e.size ≤ n → (eval n e .nil).v = none ∧ (eval n e .nil).stuck = true
 | .num s, n, hj, hc, hn => by cases hj.1
 | .name s, n, hj, hc, hn => by simp [Ex.occ] at hc
 | .fn f x s t b, n, hj, hc, hn => by cases hj.1
 | .bin o a b, n, hj, hc, hn => by
  simp only [Ex.size] at hn
  obtain ⟨n, rfl⟩ : ∃ q, n = q + 1 := ⟨n - 1, by omega⟩; obtain ⟨ca, cb⟩ := Ey (show a.occ [] ++ b.occ [] = [] from hc)
  have hs := hj.2
  simp only [Ex.step] at hs
  rw [Hg]
  by_cases va : a.value = true
  ·have ha := Hr (n := n) .nil va (by have := a.cost_size; omega)
   have hca := a.cost_size
   rw [ha]
   simp only
   rw [va] at hs
   simp only [Bool.true_eq_false, if_false] at hs
   by_cases vb : b.value = true
   ·have hb := Hr (n := n - a.cost) .nil vb (by have := b.cost_size; omega)
    rw [hb]
    simp only
    rw [vb] at hs
    simp only [Bool.true_eq_false, if_false] at hs
    have hv := hj.1
    cases o with
    | pair => simp only [Ex.value, va, vb, Bool.and_self, Bool.true_eq_false] at hv
    | call => cases a <;> first | exact ⟨rfl, rfl⟩ | (cases va; done) | (cases hs; done)
    | _ => cases a <;> first | exact ⟨rfl, rfl⟩ | (cases va; done) | (cases b <;> first | exact ⟨rfl, rfl⟩ | (cases vb; done) | (simp [Ex.turn, B5.nums] at hs; done))
   ·have vb : b.value = false := by simpa using vb
    rw [vb] at hs
    simp only [if_true] at hs
    have jb := Jq (e := b) (n := n - a.cost) ⟨vb, by simpa using hs⟩ cb (by omega)
    rw [jb.1]; exact jb
  ·have va : a.value = false := by simpa using va
   rw [va] at hs
   simp only [if_true] at hs
   have ja := Jq (e := a) (n := n) ⟨va, by simpa using hs⟩ ca (by omega)
   rw [ja.1]; exact ja
 | .ite a b c, n, hj, hc, hn => by
  simp only [Ex.size] at hn
  obtain ⟨n, rfl⟩ : ∃ q, n = q + 1 := ⟨n - 1, by omega⟩; obtain ⟨cab, cc⟩ := Ey (show (a.occ [] ++ b.occ []) ++ c.occ [] = [] from hc); obtain ⟨ca, cb⟩ := Ey cab
  have hs := hj.2
  simp only [Ex.step] at hs
  rw [Mv]
  by_cases va : a.value = true
  ·have ha := Hr (n := n) .nil va (by have := a.cost_size; omega)
   rw [ha]; rw [va] at hs
   simp only [Bool.true_eq_false, if_false] at hs
   cases a <;> first | exact ⟨rfl, rfl⟩ | (cases va; done) | (cases hs; done)
  ·have va : a.value = false := by simpa using va
   rw [va] at hs
   simp only [if_true] at hs
   have ja := Jq (e := a) (n := n) ⟨va, by simpa using hs⟩ ca (by omega)
   rw [ja.1]; exact ja
 | .lt x a b, n, hj, hc, hn => by
  simp only [Ex.size] at hn
  obtain ⟨n, rfl⟩ : ∃ q, n = q + 1 := ⟨n - 1, by omega⟩; obtain ⟨ca, cb⟩ := Ey (show a.occ [] ++ b.occ ([] ++ [x]) = [] from hc)
  have hs := hj.2
  simp only [Ex.step] at hs
  rw [Pe]
  by_cases va : a.value = true
  ·rw [va] at hs
   simp only [Bool.true_eq_false, if_false, Ex.turn] at hs
   cases hs
  ·have va : a.value = false := by simpa using va
   rw [va] at hs
   simp only [if_true] at hs
   have ja := Jq (e := a) (n := n) ⟨va, by simpa using hs⟩ ca (by omega)
   rw [ja.1]; exact ja
 | .un o a, n, hj, hc, hn => by
  simp only [Ex.size] at hn
  obtain ⟨n, rfl⟩ : ∃ q, n = q + 1 := ⟨n - 1, by omega⟩
  have ca : a.occ [] = [] := hc
  have hs := hj.2
  simp only [Ex.step] at hs
  rw [Pf]
  by_cases va : a.value = true
  ·have ha := Hr (n := n) .nil va (by have := a.cost_size; omega)
   rw [ha]; rw [va] at hs
   simp only [Bool.true_eq_false, if_false] at hs
   cases a with
   | bin p q r =>
    obtain ⟨rfl, -, -⟩ := R6 va
    cases o <;> cases hs
   | _ => first | (cases o <;> exact ⟨rfl, rfl⟩) | (cases va; done)
  ·have va : a.value = false := by simpa using va
   rw [va] at hs
   simp only [if_true] at hs
   have ja := Jq (e := a) (n := n) ⟨va, by simpa using hs⟩ ca (by omega)
   rw [ja.1]; exact ja
def KV.show : KV → Au
 | .num s => s
 | .pair a b => [40, 112, 97, 105, 114, 32] ++ a.show ++ [32] ++ b.show ++ [41]
 | .clo _ _ _ _ _ _ => [102, 117, 110]
def KV.wr (m : Nat) : KV → Au → Au
 | .num s, o => if m < o.length then o else o ++ s
 | .pair a b, o => if m < o.length then o else b.wr m (a.wr m (o ++ [40, 112, 97, 105, 114, 32]) ++ [32]) ++ [41]
 | .clo _ _ _ _ _ _, o => if m < o.length then o else o ++ [102, 117, 110]
mutual
def KV.high : KV → Nat
 | .num _ => 0
 | .pair a b => 1 + max a.high b.high
 | .clo _ _ _ _ _ r => r.high
def KE.high : KE → Nat
 | .nil => 0
 | .cons _ v up => max v.high up.high
end
mutual
def KV.tall : KV → Nat
 | .num _ => 0
 | .pair a b => max a.tall b.tall
 | .clo _ _ _ _ _ r => r.tall
def KE.tall : KE → Nat
 | .nil => 0
 | .cons _ v up => 1 + max v.tall up.tall
end
def KE.names : KE → List Au
 | .nil => []
 | .cons n _ up => up.names ++ [n]
def Adv (e : Ex) (n : Nat) : Option (Au × Nat) := match (eval n e .nil).v with
 | some w => if w.show.length ≤ 12000 then some (w.show, n - (eval n e .nil).left) else none
 | none => none
def Adw (s : Au) (n : Int) : Option (Au × Nat) := if 0 ≤ n ∧ n ≤ 2000 then (B7 s).bind fun e => Adv e n.toNat else none
def Lp (s : Au) (n : Int) : Bool := if 0 ≤ n ∧ n ≤ 2000 then (match B7 s with | some e => (eval n.toNat e .nil).stuck | none => false) else false
def Aez (s : Au) : Int := match Adw s 2000 with
 | some r => (r.2 : Nat)
 | none => -1
theorem Mu {s : Au} {e : Ex} {n : Nat} (h : B7 s = some e) (hn : n ≤ 2000) : Lp s (n : Nat) = (eval n e .nil).stuck := by
 unfold Lp; rw [if_pos (by omega), h]; rfl
theorem Mt {s : Au} {n : Int} (h : B7 s = none ∨ ¬ (0 ≤ n ∧ n ≤ 2000)) : Lp s n = false := by
 unfold Lp
 rcases h with h | h
 ·rw [h]; split <;> rfl
 ·rw [if_neg h]
theorem Qs {s : Au} {e : Ex} (h : B7 s = some e) (n : Nat) : (eval n e .nil).says e := by
 obtain ⟨hx, hok, hz, hl, hcl⟩ := En h
 have hc : e.occ [] = [] := by simpa [Ex.closed] using hcl
 have := Ra n e .nil trivial hok (fun y hy => by rw [hc] at hy; cases hy)
 exact this
theorem Goes.ty {e d : Ex} (h : Goes e d) {t : Ty} (hok : e.ok = true) (hc : e.occ [] = []) (ht : e.ty [] [] = some t) : d.ty [] [] = some t ∧ d.ok = true ∧ d.occ [] = [] := by
 induction h with
 | refl => exact ⟨ht, hok, hc⟩
 | next hs _ ih => exact ih (Ex.step_ok hok hs) (Ex.step_closed hc hs) (H0 hok hc hs ht)
theorem W3 {s : Au} {e : Ex} (h : B7 s = some e) {t : Ty} (ht : e.ty [] [] = some t) (n : Nat) : (eval n e .nil).stuck = false := by
 obtain ⟨hx, hok, hz, hl, hcl⟩ := En h
 have hc : e.occ [] = [] := by simpa [Ex.closed] using hcl
 have hs := Qs h n
 cases hst : (eval n e .nil).stuck with
 | false => rfl
 | true =>
  unfold Res.says at hs
  split at hs
  ·rw [hs.2.2] at hst; cases hst
  ·obtain ⟨d, hg, hj⟩ := hs hst
   rcases F8 (hg.ty hok hc ht).1 with h1 | ⟨d', hd⟩
   ·rw [hj.1] at h1; cases h1
   ·rw [hj.2] at hd; cases hd
theorem Q0 {s : Au} {e : Ex} (h : B7 s = some e) {n : Nat} (hst : (eval n e .nil).stuck = true) : e.ty [] [] = none := by
 cases ht : e.ty [] [] with
 | none => rfl
 | some t => rw [W3 h ht n] at hst; cases hst
theorem Y0 {s : Au} {e : Ex} (h : B7 s = some e) (hj : e.jam) : (eval 2000 e .nil).stuck = true := by
 obtain ⟨hx, hok, hz, hl, hcl⟩ := En h
 have hc : e.occ [] = [] := by simpa [Ex.closed] using hcl
 exact (Jq hj hc (by omega)).2
theorem Uc (s : Au) (hs : s.length ≤ As) (n : Int) {I : Heap} (ht : Tab I) (L : Bl) : Fun Tryz.prog 28 [.string (str s), .int .i64 n] I L (fun v I' L' => v = .bool (Lp s n) ∧ L = L') := by
 refine Ai (by simp) ?_; refine Se rfl (Oa rfl (Aa (Se rfl (Om rfl ?_)))); refine Ca rfl (Ik s hs _ _) ?_; rintro _ J _ hleJ ⟨t, cs, ok, rfl, hrep, rfl, hpf⟩; obtain ⟨oc, cc, _, rfl, -⟩ := hrep.open; refine Om rfl (Oe rfl rfl (Oe rfl rfl ?_)); refine Ax .free rfl ?_; intro b5; refine Bk rfl rfl rfl rfl .free ?_; refine Oa rfl (Aa (Ab (Ab ?_)))
 rcases hc : B7 s with _ | e
 ·skip
  rw [hc] at hpf; obtain rfl := hpf; refine Ah rfl (Om rfl ?_); refine Ck rfl .free rfl ?_; refine Om rfl ?_; refine C3 (t := 15) rfl (v' := .bool true) (by first | rfl | simp [*]) ?_
  iterate 3 refine Ci rfl rfl rfl ?_
  refine Ot rfl rfl (Aa ?_); refine Bj rfl ?_; refine Se rfl (Oa rfl (Aa (Ad (.tmp rfl .nil) ?_)))
  exact ⟨J, L, hleJ, Ay, by rw [Mt (.inl hc)]; rfl, rfl⟩
 ·skip
  rw [hc] at hpf; obtain ⟨rfl, rfl⟩ := hpf; obtain ⟨hx, hok, hz, hl, hcl⟩ := En hc
  have hoe : e.occ [] = [] := by simpa [Ex.closed] using hcl
  refine Ah rfl (Om rfl ?_); refine Ck rfl .free rfl ?_; refine Om rfl ?_; refine C3 (t := 15) rfl (v' := .bool false) (by first | rfl | simp [*]) ?_; refine Ow rfl ?_; refine Ce rfl (.met rfl rfl) rfl (Px 0 n 2000 _ _) ?_; rintro _ _ _ _ ⟨rfl, rfl, rfl⟩; refine Ck rfl (.met rfl rfl) rfl ?_; refine Of rfl rfl (Aa ?_); refine Ar rfl ?_ ?_
  ·intro c0
   try simp only [nb] at c0
   refine Se rfl (Oa rfl (Aa (Ad (.tmp rfl .nil) ?_)))
   exact ⟨J, L, hleJ, Ay, by rw [Mt (.inr (by simpa using c0))]; rfl, rfl⟩
  intro c0
  try simp only [nb] at c0
  obtain ⟨N, rfl⟩ : ∃ N : Nat, n = (N : Nat) := ⟨n.toNat, by omega⟩
  have hN : N ≤ 2000 := by omega
  have hme := Mu hc hN
  refine Af (Se rfl (Om rfl ?_)); refine Bn rfl rfl rfl .free rfl ?_; refine Cd rfl rfl .free rfl ?_; intro b22; refine Oa rfl (Aa (Se rfl (Om rfl ?_))); refine Az rfl .free rfl ?_; refine Ca rfl (Mw (ht.mono hleJ) N (by omega) hrep hok .nil trivial (fun y hy => by rw [hoe] at hy; cases hy) b22 _) ?_; rintro _ J2 _ e2 ⟨p, rfl, hp, rfl⟩
  unfold Rc
  have hle2 := hleJ.trans e2
  refine Aa (Se rfl (Om rfl ?_)); refine B0 rfl .free rfl ?_
  first | refine Oh rfl ?_ | refine Oj rfl ?_
  refine Nx rfl .free rfl ?_; refine Oa rfl (Aa (Ad (.tmp rfl .nil) ?_))
  exact ⟨J2, L, hle2, Ay, by rw [hme]; rfl, rfl⟩
theorem Adk {s : Au} {e : Ex} (h : B7 s = some e) : tyC s = e.ty [] [] := by
 unfold tyC; rw [(Gu h).1]; rfl
theorem W5 {s : Au} {e : Ex} (h : B7 s = some e) (hv : e.value = false) : Gy s = none := by
 unfold Gy; rw [h]; simp only; rw [if_neg (by rw [hv]; simp)]
theorem Vm {s : Au} (h : Ji s = true) : N6 s = none ∧ Gy s = none ∧ tyC s = none ∧ Lp s 2000 = true ∧ ∃ e, B7 s = some e := by
 cases hc : B7 s with
 | none => rw [Is hc] at h; cases h
 | some e =>
  rw [Gr hc] at h
  simp only [Bool.and_eq_true, Bool.not_eq_true', Option.isNone_iff_eq_none] at h
  have hst := Y0 hc ⟨h.1, h.2⟩
  refine ⟨?_, W5 hc h.1, ?_, ?_, e, rfl⟩
  ·rw [O5 hc]
   unfold Ex.go
   rw [h.2]
   split <;> rfl
  ·rw [Adk hc]; exact Q0 hc hst
  ·rw [show (2000 : Int) = ((2000 : Nat) : Int) from rfl, Mu hc (Nat.le_refl _)]; exact hst
theorem Uy {I : Heap} (ht : Tab I) {oa : Option Addr} {code : List UInt8} {c : Nat} (h : Bytes I oa code c) (L : Bl) : Fun Tryz.prog 6 [.slice oa code.length c] I L (YES L) := by
 have hlen := h.len
 refine Ai (by simp) ?_; refine Se rfl (Oa rfl (Aa (Ab (Se rfl (Om rfl (On rfl (Oc rfl rfl rfl (Aa ?_)))))))); refine Ar rfl ?_ ?_
 ·intro c0
  try simp only [nb] at c0
  refine Se rfl (Oa rfl (Aa (Ad (.tmp rfl .nil) ?_)))
  exact ⟨I, L, .refl _, fun _ h => h, rfl, rfl⟩
 intro c0
 try simp only [nb] at c0
 refine Af (Se rfl (Om rfl ?_)); refine Ca rfl (O8 h _) ?_; rintro _ J1 _ e1 ⟨s, rfl, hsl, rfl⟩
 have hs : s.length ≤ As := by unfold As; omega
 refine Oa rfl (Aa (Se rfl (Om rfl ?_))); refine Ca rfl (Ue s hs (ht.mono e1) _) ?_; rintro _ J2 _ e2 ⟨rfl, rfl⟩; refine Oa rfl (Aa (Se rfl (Om rfl ?_))); refine Ca rfl (Up s (Nu hs) _ _) ?_; rintro _ J3 _ e3 ⟨rfl, rfl⟩
 have hle := (e1.trans e2).trans e3
 refine Oa rfl (Aa (Ab (Se rfl (Om rfl (Om rfl ?_))))); refine Aa5 rfl rfl rfl .free rfl ?_; refine Om rfl ?_
 apply G4 20 23 rfl
 ·intro g6_4 hk
  try simp only [nb] at g6_4
  refine Ow rfl ?_; refine Ck rfl (.met rfl rfl) rfl ?_; refine Of rfl rfl ?_
  exact Bb 2 rfl rfl hk
 ·intro _ hk; refine Bm 2 rfl ?_; refine Ot rfl rfl ?_
  exact Bb 2 rfl rfl hk
 refine Aa ?_; refine Ar rfl ?_ ?_
 ·intro c1
  try simp only [nb] at c1
  refine Se rfl (Om rfl (Om rfl ?_)); refine Aa5 rfl rfl rfl .free rfl ?_; refine Oa rfl (Aa (Ad (.tmp rfl .nil) ?_)); refine ⟨J3, L, hle, Ay, ?_, rfl⟩
  simp [Cw]
 intro c1
 try simp only [nb] at c1
 have hst : Ji s = true := by simpa using c1
 obtain ⟨h1, h2, h3, h4, -⟩ := Vm hst
 clear c1
 refine Af (Se rfl (Om rfl ?_)); refine Ca rfl (Ac5 s hs (ht.mono hle) _) ?_; rintro _ J4 _ e4 ⟨rfl, rfl⟩; rw [h1]
 have hle := hle.trans e4
 refine Om rfl (Oe rfl rfl (Oe rfl rfl (Oa rfl (Oa rfl (Aa (Se rfl (Om rfl ?_))))))); refine Ck rfl .free rfl ?_; refine Om rfl ?_
 apply Ee 34 38 rfl
 ·intro g9_3 hk
  try simp only [nb] at g9_3
  refine Ow rfl ?_; refine Ce rfl (.met rfl rfl) rfl (X5 s hs _ _) ?_; rintro _ J5 _ e5 ⟨rfl, rfl⟩
  have hle5 := hle.trans e5
  refine Dv (fun w h => Mem.le e5 h) ?_; refine Ck rfl (.met rfl rfl) rfl ?_; refine Ot rfl rfl ?_
  exact Bb 3 rfl rfl hk
 ·intro _ hk; refine Bm 3 rfl ?_; refine Of rfl rfl ?_
  exact Bb 3 rfl rfl hk
 refine Om rfl ?_
 apply Ee 39 43 rfl
 ·intro g9_8 hk
  try simp only [nb] at g9_8
  refine Ow rfl ?_; refine Ce rfl (.met rfl rfl) rfl (Ud s hs _ _) ?_; rintro _ J6 _ e6 ⟨rfl, rfl⟩; refine Dv (fun w h => Mem.le e6 h) ?_; refine Ck rfl (.met rfl rfl) rfl ?_; refine Ot rfl rfl ?_
  exact Bb 3 rfl rfl hk
 ·intro _ hk; refine Bm 3 rfl ?_; refine Of rfl rfl ?_
  exact Bb 3 rfl rfl hk
 refine Om rfl ?_
 apply Ee 44 47 rfl
 ·intro g9_13 hk
  try simp only [nb] at g9_13
  refine Ow rfl ?_; refine Ce rfl (.met rfl rfl) rfl (Uc s hs 2000 (ht.mono hle) _) ?_; rintro _ J7 _ e7 ⟨rfl, rfl⟩; refine Dv (fun w h => Mem.le e7 h) ?_; refine Ot rfl rfl ?_
  exact Bb 2 rfl rfl hk
 ·intro _ hk; refine Bm 2 rfl ?_; refine Of rfl rfl ?_
  exact Bb 2 rfl rfl hk
 refine Oa rfl (Aa (Ad (.tmp rfl .nil) ?_)); refine ⟨J4, L, hle, Ay, ?_, rfl⟩
 simp [Cw, h2, h3, h4]
def Vp (P : Program) (s : String) : Bool :=
 match P.globalNamed s with
 | some g => match (P.globals[g]?).map (·.type) with
  | some t => match P.underlying t with
   | some (.array n e) => (match P.underlying e with | some (.int .u64) => true | _ => false) && (P.cellsOf e == 1) && (P.cellsOf t == n)
   | _ => false
  | none => false
 | none => false
theorem Adj {laid : List (String × DataW Unit)} {W : World} (h : laidMetH Tryz.prog laid W)
  (hk : (laid.filter fun x => x.1 == "internal/strconv.uint64pow10") = [("internal/strconv.uint64pow10", Lib.tabData .u64 Lib.pow10Tab)]) (ht : Vp Tryz.prog "internal/strconv.uint64pow10" = true) : Tab (Pg W) := by
 have h1 := h.filter (fun x => x.1 == "internal/strconv.uint64pow10")
 rw [hk] at h1
 have h1 : laidMet Tryz.prog [("internal/strconv.uint64pow10", Lib.tabData .u64 Lib.pow10Tab)] W := (laidMetH_iff.1 h1).1
 have h2 : Lib.TabIs Tryz.prog W "internal/strconv.uint64pow10" .u64 Lib.pow10Tab := by
  unfold Vp at ht
  split at ht
  ·rename_i g hg
   split at ht
   ·rename_i t hty
    split at ht
    ·rename_i n e hu
     simp only [Bool.and_eq_true, beq_iff_eq] at ht
     obtain ⟨⟨h3, h4⟩, h5⟩ := ht
     split at h3
     ·rename_i he
      exact Lib.tabIs_of_head hg hty hu he h4 h5 h1
     ·cases h3
    ·cases ht
   ·cases ht
  ·cases ht
 intro L w hm
 unfold Lib.TabIs World.var? at h2 ⊢
 cases hg : Tryz.prog.globalNamed "internal/strconv.uint64pow10" with
 | none => rw [hg] at h2; cases h2
 | some g =>
  rw [hg] at h2
  simp only [Option.bind_some] at h2 ⊢
  cases ho : W.heap[g]? with
  | none => rw [ho] at h2; cases h2
  | some o => rw [ho] at h2; rw [hm.1.1 g o ho]; exact h2
end Go.Proofs.YtmfagaajiakgoaaGreatDoor
