/- What reading a whole text returns. No conditions. -/
import Derived.Test.YtmfagaajiakgoaaGreatDoorG3
import Derived.Lib.Builder
import Derived.Lib.UnsafeStr
import Derived.Laws.MakeOwn

namespace Go.Proofs.YtmfagaajiakgoaaGreatDoor
set_option maxRecDepth 100000
set_option linter.unusedVariables false
set_option linter.unusedSimpArgs false

def RD (p : Option Tree) (L : Bl ) : C1   := fun v I' L' => ∃ t cs ok, v = .tuple #[.agg cs.toArray, .bool ok] ∧ Rep I' t cs ∧ L = L' ∧
  (match p with
   | some t0 => ok = true ∧ t = t0
   | none => ok = false)

theorem Z6 (s : Au) (hs : s.length ≤ As) (I : Heap) (L : Bl) : Fun Tryz.prog 90 [.string (str s)] I L (RD (C0 s) L) := by
 unfold As at hs
 refine Ai (by simp) ?_; refine Se rfl ?_; refine Ax .free rfl ?_; intro b2; refine Oa rfl (Aa (Ab (Se rfl (Om rfl ?_)))); refine Cz rfl .free rfl ?_; refine Oc rfl rfl rfl (Aa ?_); refine Si rfl ?_ ?_
 ·intro c0; refine Se rfl ?_; refine Bn rfl rfl rfl .free rfl ?_; refine Bk rfl rfl rfl rfl .free ?_; refine Oa rfl (Aa ?_); refine Ad (.c rfl (.tmp rfl .nil)) ?_
  exact ⟨I, L, .refl _, fun _ h => h.drop, .node [] [], _, false, rfl, Rep.empty I, rfl, by rw [C0, if_pos (by omega)]⟩
 intro c0; refine Af (Se rfl (Om rfl ?_)); refine Ca rfl (Wc 60 s (by omega) 0 rfl _ _) ?_; rintro _ J _ hleJ ⟨t, cs, r, ok, rfl, hrep, rfl, hrlen, hpf⟩; obtain ⟨oa, cc, vs, rfl, -⟩ := hrep.open; refine Om rfl ?_
 iterate 3 refine Oe rfl rfl ?_
 refine Ax .free rfl ?_; intro b4; refine Bk rfl rfl rfl rfl .free ?_; refine Oa rfl (Oa rfl (Aa (Se rfl ?_))); refine Cs rfl .free rfl ?_; refine Om rfl (Om rfl ?_)
 first | refine Gb rfl rfl ?_ ?_ | refine Ev rfl rfl ?_ ?_ | refine K0 rfl rfl ?_ ?_
 ·intro g4_3; refine Ow rfl ?_; refine Hw rfl rfl rfl (.met rfl rfl) rfl ?_; refine Ot rfl rfl ?_; refine Bk rfl rfl rfl rfl .free ?_; refine Oa rfl (Aa ?_); refine Ad (.c rfl (.tmp rfl .nil)) ?_; refine ⟨J, L, hleJ, fun _ h => h.drop.drop, t, _, _, rfl, hrep, rfl, ?_⟩; rw [C0, if_neg (by omega)]
  cases hp : Ek 60 s with
  | none => simp_all
  | some p =>
   obtain ⟨t0, r0⟩ := p; rw [hp] at hpf; obtain ⟨rfl, rfl, rfl⟩ := hpf
   cases r <;> simp_all
 intro g4_3; refine Ci rfl rfl rfl ?_; refine Ci rfl rfl rfl ?_; refine Of rfl rfl ?_; refine Bk rfl rfl rfl rfl .free ?_; refine Oa rfl (Aa ?_); refine Ad (.c rfl (.tmp rfl .nil)) ?_; refine ⟨J, L, hleJ, fun _ h => h.drop.drop, t, _, _, rfl, hrep, rfl, ?_⟩; rw [C0, if_neg (by omega)]
 cases hp : Ek 60 s with
 | none => simp_all
 | some p =>
  obtain ⟨t0, r0⟩ := p; rw [hp] at hpf; obtain ⟨rfl, rfl, rfl⟩ := hpf
  cases r <;> simp_all

def RT (p : Option Tree) (L : Bl ) : C1   := fun v I' L' => ∃ t cs ok, v = .tuple #[.agg cs.toArray, .bool ok] ∧ Rep I' t cs ∧ L = L' ∧
  (match p with
   | some t0 => ok = t0.typed ∧ t = t0
   | none => ok = false)

def LR (s : Au ) (p : Option (Tree × Au )) (L : Bl ) : C1   := fun v I' L' => ∃ t cs e, v = .tuple #[.agg cs.toArray, .int .i64 e] ∧ Rep I' t cs ∧ L = L' ∧
  (match p with
   | some (t0, r0) => t = t0 ∧ e = ((s.length - r0.length : Nat) : Int)
   | none => e = -1)
def Hp : Nat → Au → Option (Tree × Au)
 | 0, _ => none
 | k + 1, s => Ek k s
theorem S7 {k : Nat} {s : Au} {t : Tree} {r : Au} (h : Hp k s = some (t, r)) : r <:+ s := by
 cases k with
 | zero => cases h
 | succ k => exact M3 h
theorem Y1 {k : Nat} {s : Au} {t : Tree} {r : Au} (h : Hp k s = some (t, r)) : r.length < s.length := by
 cases k with
 | zero => cases h
 | succ k => exact Rt h
theorem Tk : ∀ (n : Nat) (s : Au), Eu (fun _ => none) n s = none
 | 0, _ => rfl
 | n + 1, s => rfl
theorem Tl {k : Nat} {s : Au} (h : (s.getD 0 0).toNat = 40) : Ek k s = (match Eu (Hp k) s.length (s.drop 1) with
  | some (ts, r) => some (.node [] ts, r)
  | none => none) := by
 cases k with
 | zero => rw [I8 h, show Hp 0 = fun _ => none from rfl, Tk]
 | succ k => exact H7 h
structure LS where
 I : Heap
 i : Nat
 m : Nat
 ts : List Tree
 B : Kd
 c : Nat
 xs : List Value
 n : Nat
def Adp (k : Nat) (s : Au) (i₀ : Nat) (I₀ : Heap) (x : LS) : Prop := HLe I₀ x.I ∧ RepL x.I x.ts x.xs ∧ Em 2 x.m x.c x.xs x.B ∧ x.m = x.ts.length ∧ x.i < s.length ∧ s.length - x.i ≤ x.n ∧ x.m + (s.length - x.i) ≤ s.length ∧
 Pj (Hp k) (Ek k (s.drop i₀)) ⟨x.I, s.drop x.i, x.m, x.ts, x.B, x.c, x.xs, x.n⟩
theorem Iu (s : Au) (i n : Nat) : (s.drop i).getD n 0 = s.getD (i + n) 0 := by simp [List.getD_eq_getElem?_getD, List.getElem?_drop]
theorem Ln {s : Au} {p : Option (Tree × Au)} {t : Tree} {cs : List Value} {I : Heap} {L : Bl} (hr : Rep I t cs) (hp : p = none) : LR s p L (.tuple #[.agg cs.toArray, .int .i64 (-1)]) I L :=
 ⟨t, cs, -1, rfl, hr, rfl, by rw [hp]⟩

theorem Aad : ∀ (k : Nat) (s : Au) (_ : s.length ≤ 12000) (i : Nat) (_ : i ≤ s.length) (depth : Nat) (_ : depth + k = 61) (I : Heap) (L : Bl),
  Fun Tryz.prog 144 [.string (str s), .int .i64 (i : Nat), .int .i64 (depth : Nat)] I L (LR s (Hp k (s.drop i)) L) := by
 intro k
 induction k with
 | zero =>
  intro s hsl i hi depth hdeep I L; refine Ai (by simp) ?_; refine Se rfl ?_; refine Ax .free rfl ?_; intro b6; refine Oa rfl (Aa (Se rfl ?_)); refine Bn rfl rfl rfl .free rfl ?_; refine Ax .free rfl ?_; intro b8; refine Bk rfl rfl rfl rfl .free ?_; refine Aa (Ab (Se rfl (Om rfl (Oc rfl rfl rfl (Om rfl ?_)))))
  first | refine Ada rfl rfl (by omega) ?_ | refine Ac9 rfl rfl (by omega) ?_
  iterate 4 refine Ci rfl rfl rfl ?_
  refine Ot rfl rfl (Aa ?_); refine Bj rfl ?_; refine Se rfl ?_; refine Cs rfl .free rfl ?_; refine Bk rfl rfl rfl rfl .free ?_; refine Oa rfl (Aa ?_); refine Ad (.c rfl (.tmp rfl .nil)) ?_
  exact ⟨I, L, .refl _, fun _ h => h.drop.drop, .node [] [], _, -1, rfl, Rep.empty I, rfl, rfl⟩
 | succ k ihk =>
  intro s hsl i hi depth hdeep I L; refine Ai (by simp) ?_; refine Se rfl ?_; refine Ax .free rfl ?_; intro b6; refine Oa rfl (Aa (Se rfl ?_)); refine Bn rfl rfl rfl .free rfl ?_; refine Ax .free rfl ?_; intro b8; refine Bk rfl rfl rfl rfl .free ?_; refine Aa (Ab (Se rfl (Om rfl (Oc rfl rfl rfl (Om rfl ?_)))))
  first | refine Ac8 rfl rfl (by omega) ?_ | refine Ac7 rfl rfl (by omega) ?_
  refine Ow rfl (Ow rfl ?_); refine Cz rfl (.met rfl rfl) rfl ?_; refine Dr rfl rfl rfl (.met rfl rfl) rfl ?_; refine Of rfl rfl (Aa ?_); refine Si rfl ?_ ?_
  ·intro c0; refine Se rfl ?_; refine Cs rfl .free rfl ?_; refine Bk rfl rfl rfl rfl .free ?_; refine Oa rfl (Aa ?_); refine Ad (.c rfl (.tmp rfl .nil)) ?_
   exact ⟨I, L, .refl _, fun _ h => h.drop.drop, Ln (Rep.empty I) (by simp only [Hp]; rw [List.drop_eq_nil_of_le (by omega)]; cases k <;> rfl)⟩
  intro c0; refine Af (Ab (Se rfl (Om rfl (Om rfl ?_)))); refine Dn rfl rfl rfl (by first | omega | exact Cg (by assumption) (by decide) | (simp; done) | (simp; omega) | decide | (simp at *; omega)) .free rfl ?_; refine Oc rfl rfl rfl (Aa ?_); refine Si rfl ?_ ?_
  ·intro c1
   have h40 : ((s.drop i).getD 0 0).toNat ≠ 40 := by rw [Iu]; simp only [Nat.add_zero]; omega
   refine Se rfl (Om rfl (Oa rfl (Aa (Ab (Aj ?_))))); refine Dy (X := Nat) (fun n => s.length - i - n) (fun n => [(0, .string (str s)), (1, .int .i64 ((i + n : Nat))), (6, .pointer (some ⟨b6, 0, none⟩)), (8, .pointer (some ⟨b8, 0, none⟩)), (9, .int .i64 (i : Nat))]) (fun _ => I)
    (fun _ => (b8, .cells [.string (str []), .slice none 0 0].toArray 68 (0, 0)) :: (b6, .cells [.string (str []), .slice none 0 0].toArray 68 (0, 0)) :: L) (fun n => i + n ≤ s.length ∧ ((s.drop i).take n).all E5 = true) 0 ⟨by omega, by simp⟩ ⟨rfl, rfl, rfl, rfl, rfl, trivial⟩ (fun _ h => h) ?_
   rintro n ⟨hn, hall⟩ ih; refine Ab (Se rfl (Om rfl (Om rfl ?_))); refine Cz rfl .free rfl ?_; refine Oc rfl rfl rfl (Om rfl ?_)
   first | refine Gb rfl rfl ?_ ?_ | refine Ev rfl rfl ?_ ?_ | refine K0 rfl rfl ?_ ?_
   ·intro g6_5; refine Ow rfl (Ow rfl ?_); refine Dn rfl rfl rfl (by first | omega | exact Cg (by assumption) (by decide) | (simp; done) | (simp; omega) | decide | (simp at *; omega)) (.met rfl rfl) rfl ?_; refine Ce rfl (.met rfl rfl) rfl (Aac _ _ _) ?_; rintro _ _ _ _ ⟨rfl, rfl, rfl⟩; refine Ot rfl rfl (Aa ?_); refine Si rfl ?_ ?_
    ·intro c2; refine Af (Aj (Ah rfl (Om rfl ?_))); refine Or rfl rfl rfl ?_; refine Oa rfl (Aa (Al ?_)); refine Bo (E' := [(0, .string (str s)), (1, .int .i64 ((i + (n + 1) : Nat))), (6, .pointer (some ⟨b6, 0, none⟩)), (8, .pointer (some ⟨b8, 0, none⟩)), (9, .int .i64 (i : Nat))]) ⟨rfl, rfl, rfl, rfl, rfl, trivial⟩ (ih (n + 1) ⟨by omega, Jb hall (by rw [List.length_drop]; omega) (by rw [Iu]; assumption)⟩ (by omega))
    intro c2; refine Bw rfl ?_; refine Ab ?_
    have htw := Ku (n := n) hall (by first | exact .inl (by rw [List.length_drop]; omega) | exact .inr ⟨by rw [List.length_drop]; omega, by rw [Iu]; assumption⟩)
    have hpo := G6 (k := k) h40
    rw [htw.1, htw.2] at hpo
    have hdt : (s.take (i + n)).drop i = (s.drop i).take n := by rw [List.drop_take]; congr 1; omega
    refine Ah rfl ?_
    iterate 3 refine Om rfl ?_
    refine O2 rfl rfl rfl i (i + n) rfl rfl (by omega) .free rfl ?_; rw [hdt]
    first | refine Oh rfl ?_ | refine Oj rfl ?_
    refine Bk rfl rfl rfl rfl .free ?_; refine Aa (Ab (Se rfl ?_))
    first | refine Oh rfl ?_ | refine Oj rfl ?_
    refine Cs rfl .free rfl ?_; refine Od rfl rfl rfl (Aa ?_); refine Si rfl ?_ ?_
    ·intro c3; refine Se rfl ?_; refine Cs rfl .free rfl ?_; refine Bk rfl rfl rfl rfl .free ?_; refine Oa rfl (Aa ?_); refine Ad (.c rfl (.tmp rfl .nil)) ?_
     exact ⟨I, L, .refl _, fun _ h => h.drop.drop, Ln (.ofAtom (by unfold As; simp; omega)) (by simp only [Hp]; rw [hpo, if_pos (by assumption)])⟩
    intro c3; refine Af (Se rfl ?_); refine Cs rfl .free rfl ?_; refine Om rfl ?_; refine Bk rfl rfl rfl rfl .free ?_; refine Oa rfl (Aa ?_); refine Ad (.c rfl (.tmp rfl .nil)) ?_; refine ⟨I, L, .refl _, fun _ h => h.drop.drop, .node ((s.drop i).take n) [], _, _, rfl, .ofAtom (by unfold As; simp; omega), rfl, ?_⟩
    simp only [Hp]; rw [hpo, if_neg (by assumption)]
    refine ⟨rfl, ?_⟩
    simp only [List.length_drop]; omega
   intro g6_5
   iterate 4 refine Ci rfl rfl rfl ?_
   refine Of rfl rfl (Aa ?_); refine Ap rfl ?_; refine Bw rfl ?_; refine Ab ?_
   have htw := Ku (n := n) hall (by first | exact .inl (by rw [List.length_drop]; omega) | exact .inr ⟨by rw [List.length_drop]; omega, by rw [Iu]; assumption⟩)
   have hpo := G6 (k := k) h40
   rw [htw.1, htw.2] at hpo
   have hdt : (s.take (i + n)).drop i = (s.drop i).take n := by rw [List.drop_take]; congr 1; omega
   refine Ah rfl ?_
   iterate 3 refine Om rfl ?_
   refine O2 rfl rfl rfl i (i + n) rfl rfl (by omega) .free rfl ?_; rw [hdt]
   first | refine Oh rfl ?_ | refine Oj rfl ?_
   refine Bk rfl rfl rfl rfl .free ?_; refine Aa (Ab (Se rfl ?_))
   first | refine Oh rfl ?_ | refine Oj rfl ?_
   refine Cs rfl .free rfl ?_; refine Od rfl rfl rfl (Aa ?_); refine Si rfl ?_ ?_
   ·intro c3; refine Se rfl ?_; refine Cs rfl .free rfl ?_; refine Bk rfl rfl rfl rfl .free ?_; refine Oa rfl (Aa ?_); refine Ad (.c rfl (.tmp rfl .nil)) ?_
    exact ⟨I, L, .refl _, fun _ h => h.drop.drop, Ln (.ofAtom (by unfold As; simp; omega)) (by simp only [Hp]; rw [hpo, if_pos (by assumption)])⟩
   intro c3; refine Af (Se rfl ?_); refine Cs rfl .free rfl ?_; refine Om rfl ?_; refine Bk rfl rfl rfl rfl .free ?_; refine Oa rfl (Aa ?_); refine Ad (.c rfl (.tmp rfl .nil)) ?_; refine ⟨I, L, .refl _, fun _ h => h.drop.drop, .node ((s.drop i).take n) [], _, _, rfl, .ofAtom (by unfold As; simp; omega), rfl, ?_⟩
   simp only [Hp]; rw [hpo, if_neg (by assumption)]
   refine ⟨rfl, ?_⟩
   simp only [List.length_drop]; omega
  intro c1; refine Af (Aj ?_)
  have hi' : i < s.length := by omega
  refine Dy (X := LS) (fun x => s.length - x.i) (fun x => [(0, .string (str s)), (1, .int .i64 (x.i : Nat)), (2, .int .i64 (depth : Nat)), (6, .pointer (some ⟨b6, 0, none⟩)), (8, .pointer (some ⟨b8, 0, none⟩))]) (fun x => x.I)
   (fun x => (b8, .cells [.string (str []), Cb x.m x.c x.B].toArray 68 (0, 0)) :: (b6, .cells [.string (str []), .slice none 0 0].toArray 68 (0, 0)) :: (Ch 68 x.xs x.B ++ L)) (Adp k s i I) ⟨I, i, 0, [], none, 0, [], s.length - i⟩
   ⟨.refl _, .nil, ⟨rfl, rfl, rfl⟩, rfl, hi', Nat.le_refl _, by simp, by
    have := Tl (k := k) (s := s.drop i) (by rw [Iu]; simp only [Nat.add_zero]; omega)
    rw [List.length_drop] at this
    unfold Pj
    split <;> simp_all⟩ ⟨rfl, rfl, rfl, rfl, rfl, trivial⟩ (fun _ h => h) ?_
  rintro x ⟨hle, hrl, hB, hxm, hxi, hxn, hxt, hlink⟩ ih; refine Aj (Se rfl (Om rfl (Om rfl ?_))); refine Or rfl rfl rfl ?_; refine Om rfl ?_; refine Or rfl rfl rfl ?_; refine Ca rfl (ihk s hsl (x.i + 1) (by omega) (depth + 1) (by omega) _ _) ?_; rintro _ J _ hleJ ⟨t, cs, e, rfl, hrep, rfl, hpf⟩; obtain ⟨oa, cc, vs, rfl, -⟩ := hrep.open
  have hdd : (s.drop x.i).drop 1 = s.drop (x.i + 1) := by rw [List.drop_drop]
  obtain ⟨je, hje⟩ : ∃ je : Nat, e = je ∨ e = -1 := by
   cases hp : Hp k (s.drop (x.i + 1)) with
   | none => rw [hp] at hpf; exact ⟨0, .inr hpf⟩
   | some p => rw [hp] at hpf; exact ⟨_, .inl hpf.2⟩
  refine Om rfl (Oe rfl rfl (Oe rfl rfl ?_)); refine Ax .free rfl ?_; intro b10; refine Bk rfl rfl rfl rfl .free ?_; refine Oa rfl (Aa (Ab (Se rfl (Om rfl (Oc rfl rfl rfl (Om rfl ?_))))))
  first | refine Gb rfl rfl ?_ ?_ | refine Ev rfl rfl ?_ ?_ | refine K0 rfl rfl ?_ ?_
  ·intro g13_3
   iterate 4 refine Ci rfl rfl rfl ?_
   refine Ot rfl rfl (Aa ?_); refine Bj rfl ?_; refine Ab ?_; refine Bg (fun w h => h.u3) (Li (a := []) (hrl.mono hleJ) hB hxm (by simp [As]) (by unfold As; omega) ?_); intro J2 hle2 hrep2; refine Ah rfl ?_; refine Cs rfl .free rfl ?_; refine Bk rfl rfl rfl rfl .free ?_; refine Oa rfl (Aa ?_); refine Ad (.c rfl (.tmp rfl .nil)) ?_
   have hf : Ek k (s.drop i) = none := by
    refine Iw hlink (by simp only; omega) ?_
    simp only [hdd]
    cases hp : Hp k (s.drop (x.i + 1)) with
    | none => exact .inl rfl
    | some p =>
     obtain ⟨t0, r0⟩ := p; rw [hp] at hpf; refine .inr ⟨t0, r0, rfl, .inl ?_⟩
     have h2 := hpf.2
     apply List.eq_nil_of_length_eq_zero
     omega
   exact ⟨J2, L, (hle.trans hleJ).trans hle2, fun _ h => h.drop.drop.drop, Ln hrep2 hf⟩
  intro g13_3; refine Ow rfl (Ow rfl ?_); refine Cz rfl (.met rfl rfl) rfl ?_; refine Dr rfl rfl rfl (.met rfl rfl) rfl ?_; refine Of rfl rfl (Aa ?_); refine Si rfl ?_ ?_
  ·intro c4; refine Ab ?_; refine Bg (fun w h => h.u3) (Li (a := []) (hrl.mono hleJ) hB hxm (by simp [As]) (by unfold As; omega) ?_); intro J2 hle2 hrep2; refine Ah rfl ?_; refine Cs rfl .free rfl ?_; refine Bk rfl rfl rfl rfl .free ?_; refine Oa rfl (Aa ?_); refine Ad (.c rfl (.tmp rfl .nil)) ?_
   have hf : Ek k (s.drop i) = none := by
    refine Iw hlink (by simp only; omega) ?_
    simp only [hdd]
    cases hp : Hp k (s.drop (x.i + 1)) with
    | none => exact .inl rfl
    | some p =>
     obtain ⟨t0, r0⟩ := p; rw [hp] at hpf; refine .inr ⟨t0, r0, rfl, .inl ?_⟩
     have h2 := hpf.2
     apply List.eq_nil_of_length_eq_zero
     omega
   exact ⟨J2, L, (hle.trans hleJ).trans hle2, fun _ h => h.drop.drop.drop, Ln hrep2 hf⟩
  intro c4; refine Af (Ab ?_); obtain rfl : e = je := by omega
  obtain ⟨r, hpf', hre, hrne⟩ : ∃ r, Hp k (s.drop (x.i + 1)) = some (t, r) ∧ r = s.drop je ∧ r ≠ [] := by
   cases hp : Hp k (s.drop (x.i + 1)) with
   | none => rw [hp] at hpf; omega
   | some p =>
    obtain ⟨t0, r0⟩ := p; rw [hp] at hpf; obtain ⟨rfl, h2⟩ := hpf
    have hsf := S7 hp
    have h3 := Vo (hsf.trans (List.drop_suffix _ _))
    have h4 := hsf.length_le
    rw [List.length_drop] at h4
    have h5 : je = s.length - r0.length := by omega
    refine ⟨r0, rfl, by rw [h5]; exact h3, ?_⟩; intro e; subst e; simp at h5; omega
  have hrl0 : r.length = s.length - je := by rw [hre]; simp
  have hrpos := List.length_pos_iff.2 hrne
  have hrlt : x.i + 1 < je := by have := Y1 hpf'; rw [List.length_drop] at this; omega
  refine Ah rfl ?_
  first | refine Oh rfl ?_ | refine Oj rfl ?_
  refine Cs rfl .free rfl ?_; refine Cs rfl .free rfl ?_; refine Ol rfl rfl ?_; intro b71; refine C2 (B := x.B) (xs := x.xs) (ys := [.string (str t.atom), .slice oa t.parts.length cc]) (m := x.m) (c := x.c) (by intro kk; simp) (by rfl) rfl rfl hB (fun _ h => h.u4) (by rfl) (fun a ha => by cases ha; exact Br (.head _) (by rfl)) (by simp) (by rfl) (by decide) (by decide) (by omega) (by decide) .free rfl ?_; intro bb sp c' hB'
  first | refine Oh rfl ?_ | refine Oj rfl ?_
  refine Bk rfl rfl rfl rfl .free ?_
  have hrl' : RepL J (x.ts ++ [t]) (x.xs ++ [Value.string (str t.atom), Value.slice oa t.parts.length cc]) := (hrl.mono hleJ).append (.cons hrep .nil)
  have hlen' : x.m + 1 = (x.ts ++ [t]).length := by simp [hxm]
  have hhd : r.getD 0 0 = s.getD je 0 := by rw [hre, Iu]; rfl
  refine Aa (Se rfl (Om rfl (Oa rfl (Aa (Ab (Se rfl (Om rfl (Om rfl ?_)))))))); refine Dn rfl rfl rfl (by omega) .free rfl ?_; refine Oc rfl rfl rfl (Aa ?_); refine Si rfl ?_ ?_
  ·intro c5; refine Ab ?_; refine Be ?_; intro hfz; refine Ah rfl ?_; refine Cs rfl .free rfl ?_; refine Om rfl ?_; refine Or rfl rfl rfl ?_; refine Bk rfl rfl rfl rfl .free ?_; refine Oa rfl (Aa ?_); refine Ad (.c rfl (.tmp rfl .nil)) ?_; refine ⟨_, L, (hle.trans hleJ).trans hfz, fun _ h => h.drop.drop.drop.drop, .node [] (x.ts ++ [t]), _, _, rfl, .mk' hlen' (hrl'.mono hfz) (fun y hy => by cases hy; exact A5) (by simp) hB'.2.1 (by simp [As]) (by unfold As; omega), rfl, ?_⟩
   simp only [Hp]
   rw [Ns hlink (by simp only; omega) (by simp only [hdd]; exact hpf') hrne (by rw [hhd]; omega)]; refine ⟨rfl, ?_⟩
   simp only [List.length_drop]; omega
  intro c5; refine Af (Se rfl (Om rfl (Om rfl ?_))); refine Dn rfl rfl rfl (by omega) .free rfl ?_; refine Oc rfl rfl rfl (Aa ?_); refine Si rfl ?_ ?_
  ·intro c6; refine Ab ?_; refine Be ?_; intro hfz; refine Ah rfl ?_; refine Cs rfl .free rfl ?_; refine Bk rfl rfl rfl rfl .free ?_; refine Oa rfl (Aa ?_); refine Ad (.c rfl (.tmp rfl .nil)) ?_
   have hf : Ek k (s.drop i) = none := by
    refine Iw hlink (by simp only; omega) (.inr ⟨t, r, by simp only [hdd]; exact hpf', .inr ⟨by rw [hhd]; omega, by rw [hhd]; omega⟩⟩)
   exact ⟨_, L, (hle.trans hleJ).trans hfz, fun _ h => h.drop.drop.drop.drop, Ln (t := .node [] (x.ts ++ [t])) (.mk' hlen' (hrl'.mono hfz) (fun y hy => by cases hy; exact A5) (by simp) hB'.2.1 (by simp [As]) (by unfold As; omega)) hf⟩
  intro c6; refine Af (Al ?_); refine Bg (fun w h => Mem.sub (L' := (b8, _) :: (b6, _) :: (bb, _) :: L) (by repeat (first | exact List.Sublist.refl _ | apply List.Sublist.cons_cons | apply List.Sublist.cons)) h.f4.f4) (Bo ?_ (ih ⟨J, je, x.m + 1, x.ts ++ [t], some (bb, sp), c', _, x.n - 1⟩ ⟨hle.trans hleJ, hrl', hB', hlen', by simp only; omega, by simp only; omega, by simp only; omega, ?_⟩ (by simp only; omega)))
  ·exact ⟨rfl, rfl, rfl, rfl, rfl, trivial⟩
  ·have := Nt (I := J) (B := some (bb, sp)) (c := c') (m' := x.m + 1) (xs := x.xs ++ [Value.string (str t.atom), Value.slice oa t.parts.length cc]) hlink (by simp only; omega) (by simp only [hdd]; exact hpf') hrne (by rw [hhd]; omega) (by rw [hhd]; omega)
   rw [hre] at this
   exact this

def Ka : Nat := 9223372036854775807
theorem Nu {n : Nat} (h : n ≤ As) : n ≤ Ka := by unfold As at h; unfold Ka; omega
theorem G1 (s : Au) (hs : s.length ≤ Ka) (I : Heap) (L : Bl) : Fun Tryz.prog 94 [.string (str s)] I L (RD (C0 s) L) := by
 unfold Ka at hs
 refine Ai (by simp) ?_; refine Se rfl ?_; refine Ax .free rfl ?_; intro b2; refine Oa rfl (Aa (Ab (Se rfl (Om rfl ?_)))); refine Cz rfl .free rfl ?_; refine Oc rfl rfl rfl (Aa ?_); refine Si rfl ?_ ?_
 ·intro c0; refine Se rfl ?_; refine Bn rfl rfl rfl .free rfl ?_; refine Bk rfl rfl rfl rfl .free ?_; refine Oa rfl (Aa ?_); refine Ad (.c rfl (.tmp rfl .nil)) ?_
  exact ⟨I, L, .refl _, fun _ h => h.drop, .node [] [], _, false, rfl, Rep.empty I, rfl, by rw [C0, if_pos (by omega)]⟩
 intro c0; refine Af (Se rfl (Om rfl ?_)); refine Ca rfl (Aad 61 s (by omega) 0 (by omega) 0 rfl _ _) ?_; rintro _ J _ hleJ ⟨t, cs, e, rfl, hrep, rfl, hpf⟩; obtain ⟨oa, cc, vs, rfl, -⟩ := hrep.open; refine Om rfl (Oe rfl rfl (Oe rfl rfl ?_)); refine Ax .free rfl ?_; intro b4; refine Bk rfl rfl rfl rfl .free ?_; refine Oa rfl (Aa (Se rfl ?_)); refine Cs rfl .free rfl ?_; refine Om rfl (Om rfl ?_); refine Cz rfl .free rfl ?_; refine Oc rfl rfl rfl ?_; refine Bk rfl rfl rfl rfl .free ?_; refine Oa rfl (Aa ?_); refine Ad (.c rfl (.tmp rfl .nil)) ?_
 refine ⟨J, L, hleJ, fun _ h => h.drop.drop, t, _, _, rfl, hrep, rfl, ?_⟩; rw [C0, if_neg (by omega)]
 simp only [Hp, List.drop_zero] at hpf
 cases hp : Ek 60 s with
 | none =>
  rw [hp] at hpf
  simp only at hpf ⊢
  exact decide_eq_false (by omega)
 | some p =>
  obtain ⟨t0, r0⟩ := p
  have hsf := (M3 hp).length_le
  have hlt := Rt hp
  rw [hp] at hpf; obtain ⟨rfl, rfl⟩ := hpf
  cases r0 with
  | nil => exact ⟨decide_eq_true (by simp), rfl⟩
  | cons c r0 =>
   simp only [List.length_cons] at hlt hsf ⊢
   exact decide_eq_false (by omega)
theorem Ri (s : Au) (hs : s.length ≤ As) (I : Heap) (L : Bl) : Fun Tryz.prog 94 [.string (str s)] I L (RD (C0 s) L) := G1 s (Nu hs) I L
theorem Wd (s : Au) (hs : s.length ≤ As) (I : Heap) (L : Bl) : Fun Tryz.prog 105 [.string (str s)] I L (RT (C0 s) L) := by
 refine Ai (by simp) ?_; refine Se rfl ?_; refine Ax .free rfl ?_; intro b2; refine Oa rfl (Aa (Se rfl (Om rfl ?_))); refine Ca rfl (Z6 s hs _ _) ?_; rintro _ J _ hleJ ⟨t, cs, ok, rfl, hrep, rfl, hpf⟩; obtain ⟨oa, cc, vs, rfl, -⟩ := hrep.open; refine Om rfl (Oe rfl rfl (Oe rfl rfl ?_)); refine Ax .free rfl ?_; intro b4; refine Bk rfl rfl rfl rfl .free ?_; refine Oa rfl (Aa (Ab ?_)); refine B8 8 rfl rfl ?_; refine Dt 0 [6] rfl (Mm rfl) ?_; refine Da 1 rfl (Ae rfl) ?_; refine Da 2 rfl (Ae rfl) ?_
 first | refine Acq (t := 13) rfl ?_ ?_ | refine Adt (t := 13) rfl ?_ ?_
 ·intro g2_3; refine Eo 3 [4, 6] rfl (by kernel_rfl) rfl Am (Mm rfl) (.met rfl rfl) rfl ?_
  refine Ga 4 rfl (by kernel_rfl) rfl rfl (.met rfl rfl) rfl (Gm hrep (by cases hp : C0 s with
   | none => simp_all
   | some t0 => rw [hp] at hpf; obtain ⟨_, rfl⟩ := hpf; have := Kn hp; unfold As; omega) _) ?_
  rintro _ _ _ _ ⟨rfl, rfl, rfl⟩; refine Hx ?_; refine Da 5 rfl (Dg rfl rfl) ?_; refine Dx 6 rfl rfl rfl rfl ?_; refine Db 7 rfl (Aw rfl) ?_; refine Ao (by kernel_rfl) ?_; refine Ad (.c rfl (.tmp rfl .nil)) ?_; refine ⟨J, L, hleJ, fun _ h => h.drop.drop, t, _, _, rfl, hrep, rfl, ?_⟩
  cases hp : C0 s with
  | none => simp_all
  | some t0 => simp_all
 intro g2_3; refine Ds 3 rfl rfl rfl ?_; refine Ds 4 rfl rfl rfl ?_; refine Da 5 rfl (C7 rfl rfl) ?_; refine Dx 6 rfl rfl rfl rfl ?_; refine Db 7 rfl (Aw rfl) ?_; refine Ao (by kernel_rfl) ?_; refine Ad (.c rfl (.tmp rfl .nil)) ?_; refine ⟨J, L, hleJ, fun _ h => h.drop.drop, t, _, _, rfl, hrep, rfl, ?_⟩
 cases hp : C0 s with
 | none => simp_all
 | some t0 => simp_all
def Fc (s : Au) : Option Tree := match C0 s with
 | some t => bif t.typed then some t else none
 | none => none
section rules
variable {P : Program} {f : FuncId} {n : Nat} {I₀ : Heap} {Q : C1} {k : List Item} {E : G7} {I : Heap} {L : Bl}
variable {ops : Array Oper} {d : Nat} {ty : TypeId} {pos : String} {af : Array Edge} {g : Option (Nat × Bool)} {l : List Oper}

theorem L9 {c : Code} {rs : List ResultVar} {vs : List Value} {m : Nat} [hf : Bq P f c m rs] (hr : RetOk P E I L rs vs)
  (hp : ∃ I' L', HLe I₀ I' ∧ (∀ w, Mem I L w → Mem I' L' w) ∧ Q (Cw vs) I' L') : RunS P f n I₀ Q [] E I L := by
 obtain ⟨fn, hfn, _, _, hrs, _⟩ := hf.get; intro a w ha hd he hm cs; obtain ⟨I', L', hle, hmm, hq⟩ := hp; refine ⟨.returned (Cw vs), w, _, ⟨_, I', L', rfl, hle, hmm w hm, hq⟩, .one step_end, rfl, rfl, hd, rfl, fn, hfn, ?_⟩
 have h1 := Abh hr he hm
 have h2 : (fn.results.mapM (fun | .tmp t => pure (a.tmps.getD t undef) | .cell b t => do loadVar t (← asAddr (a.tmps.getD b undef)) : ResultVar → Sem Value)).run P w = .ok vs.toArray w := by
  rw [hrs, List.mapM_toArray]
  exact Ac h1
 unfold results
 rw [show ((base f).at a []).tmps = a.tmps from rfl]; refine Eq.trans (Ac h2) ?_
 cases vs with
 | nil => rfl
 | cons v vs =>
  cases vs with
  | nil => rfl
  | cons u us => simp [Cw, F6]

theorem D5 {S : World → Prop} {x : Operand} {a : Addr} (hx : Ba E x = some (.pointer (some a))) : Gz P E S ⟨some d, .nilCheck x, ty, pos, af, g⟩ (.pointer (some a)) := fun ac w he _ => by
 simp only [execOp, he.eval hx]; rfl
theorem B0 {x : Operand} {a : Addr} (hx : Ba E x = some (.pointer (some a))) (hg : Wants ops E g) (hdn : Nat.blt d n = true) (h : A7 P f n I₀ Q ops l k ((d, .pointer (some a)) :: E) I L) :
  A7 P f n I₀ Q ops (⟨some d, .nilCheck x, ty, pos, af, g⟩ :: l) k E I L := D4 (D5 hx) hg hdn h

theorem Gx {op : BinOp} {T : TypeId} {x y : Operand} {a b : Option Addr} (w : World) : (eqGuard op T x y (.pointer a) (.pointer b)).run P w = .ok () w := by
 unfold eqGuard; split <;> rfl
theorem Abs {S : World → Prop} {T T' e sz bb : Nat} {z : List Value} [ht : At P T (.pointer e) sz bb z] {x y : Operand} {oa : Option Addr} (hx : Ba E x = some (.pointer oa)) (hy : Ba E y = some (.pointer none)) :
  Gz P E S ⟨some d, .binOp .eql T x y T', ty, pos, af, g⟩ (.bool oa.isNone) := fun ac w he _ => by
 simp only [execOp, he.eval hx, he.eval hy]
 refine Ac (a := _) (w' := w) ?_ |>.trans rfl
 rw [Ac (Gx w)]
 have h : ∀ d : Nat, (Op.equalIn (d + 1) T (.pointer oa) (.pointer none)).run P w = .ok oa.isNone w := fun d => by
  unfold Op.equalIn
  rw [Ac (Bc ht.und w)]
  cases oa <;> rfl
 simp only [binOp, Op.equal]
 exact Ac (h 9999) |>.trans rfl
theorem U6 {T T' e sz bb : Nat} {z : List Value} [ht : At P T (.pointer e) sz bb z] {x y : Operand} {oa : Option Addr} (hx : Ba E x = some (.pointer oa)) (hy : Ba E y = some (.pointer none)) (hg : Wants ops E g) (hdn : Nat.blt d n = true)
  (h : A7 P f n I₀ Q ops l k ((d, .bool oa.isNone) :: E) I L) : A7 P f n I₀ Q ops (⟨some d, .binOp .eql T x y T', ty, pos, af, g⟩ :: l) k E I L := D4 (Abs hx hy) hg hdn h
theorem Y5 {T T' e sz bb esz ebb : Nat} {z ez : List Value} {dd : TypeDesc} [ht : At P T (.pointer e) sz bb z] [hte : At P e dd esz ebb ez] {x y : Operand} {a : Addr} (hx : Ba E x = some (.pointer (some a))) (hy : Ba E y = some (.pointer (some a))) (hg : Wants ops E g) (hdn : Nat.blt d n = true)
  (h : A7 P f n I₀ Q ops l k ((d, .bool false) :: E) I L) : A7 P f n I₀ Q ops (⟨some d, .binOp .neq T x y T', ty, pos, af, g⟩ :: l) k E I L :=
 Aba (fun ac w he => by
  simp only [execOp, he.eval hx, he.eval hy]
  refine Ac (a := _) (w' := w) ?_ |>.trans rfl
  rw [Ac (Gx w)]; obtain ⟨i, z, hi, _⟩ := hte.info
  exact Lib.run_neq_ptr_same w a ht.und hi) hg hdn h

theorem N5 {b : Nat} {c : Array Value} {T : TypeId} {fr : Nat × Nat} {w : World} (hm : (b, Obj.cells c T fr) ∈ L) (hw : Mem I L w) : w.shape? b = some (T, c.size) := by
 simp [World.shape?, (hw.2.1 _ hm).1]
theorem Wt {src dst t sz bb sz2 bb2 tsz tbb : Nat} {z z2 tz : List Value} {dd : TypeDesc} [hs : At P src (.pointer t) sz bb z] [hd : At P dst .unsafePointer sz2 bb2 z2] [ht : At P t dd tsz tbb tz] {x : Operand} {b off : Nat} {cs : List Value} {U : TypeId} {fr : Nat × Nat}
  (hx : Ba E x = some (.pointer (some ⟨b, off, none⟩))) (hm : (b, Obj.cells cs.toArray U fr) ∈ L) (ht0 : tsz ≠ 0) (ho : off < cs.length) (hg : Wants ops E g) (hdn : Nat.blt d n = true)
  (h : A7 P f n I₀ Q ops l k ((d, .pointer (some ⟨b, off, none⟩)) :: E) I L) : A7 P f n I₀ Q ops (⟨some d, .convert src dst x, ty, pos, af, g⟩ :: l) k E I L :=
 D4 (fun ac w he hw => by
  obtain ⟨i, z, hi, hsz, _⟩ := ht.info
  simp only [execOp, he.eval hx]
  exact Ac (Lib.run_to_unsafe w ⟨b, off, none⟩ hs.und hd.und hi (by omega) (N5 hm hw) (by simpa using ho)) |>.trans rfl) hg hdn h
theorem Tb {src dst u sz bb sz2 bb2 usz ubb : Nat} {z z2 uz : List Value} {dd : TypeDesc} [hs : At P src .unsafePointer sz bb z] [hd : At P dst (.pointer u) sz2 bb2 z2] [hu : At P u dd usz ubb uz] {x : Operand} {b off : Nat} {cs : List Value} {U : TypeId} {fr : Nat × Nat}
  (hx : Ba E x = some (.pointer (some ⟨b, off, none⟩))) (hm : (b, Obj.cells cs.toArray U fr) ∈ L) (hl : liesAt P P.depth U (cs.length / P.cellsOf U) off u 1 = true) (hg : Wants ops E g) (hdn : Nat.blt d n = true)
  (h : A7 P f n I₀ Q ops l k ((d, .pointer (some ⟨b, off, none⟩)) :: E) I L) : A7 P f n I₀ Q ops (⟨some d, .convert src dst x, ty, pos, af, g⟩ :: l) k E I L :=
 D4 (fun ac w he hw => by
  obtain ⟨i, z, hi, _⟩ := hu.info
  simp only [execOp, he.eval hx]
  exact Ac (Lib.run_from_unsafe w ⟨b, off, none⟩ hs.und hd.und hi (N5 hm hw) (by simpa using hl)) |>.trans rfl) hg hdn h

theorem Aa7 {kf : FuncId} {args : Array Operand} {tys : Array TypeId} {vs : List Value} {v : Value} {fn : Func} {e : Array Value → Sem Value} (hf : P.funcs[kf]? = some fn) (hb : fn.body = none) (hne : (fn.name == "runtime.NumGoroutine") = false)
  (h1 : (Extern.findNext fn).isNone = true) (h2 : Extern.find fn = some e) (hv : ∀ w, (e vs.toArray).run P w = .ok v w)
  (ha : Ho E args.toList = some vs) (hg : Wants ops E g) (hdn : Nat.blt d n = true) (h : A7 P f n I₀ Q ops l k ((d, v) :: E) I L) :
  A7 P f n I₀ Q ops (⟨some d, .call ⟨.value (.func kf), args, tys⟩, ty, pos, af, g⟩ :: l) k E I L :=
 Aba (fun a w he => by
  have h3 : args.map a.eval = vs.toArray := Array.ext' (by simpa using he.evals ha)
  simp only [execOp, resolve, h3]
  simp only [Act.eval, Deferred.ofValue, pure_bind, invoke]
  unfold callFunc
  rw [Ac (a := P) (w' := w) rfl]
  have h1' : Extern.findNext fn = none := by simpa using h1
  simp only [hf, hne, hb, Option.isNone_none, if_true, if_false, Bool.false_eq_true, h1', h2]
  rw [Ac (a := ()) (w' := w) rfl]
  have := hv w
  simp only [Array.append_empty, Array.empty_append]
  exact Ac this |>.trans rfl) hg hdn h

theorem Lg {T e T2 : TypeId} {sz bb esz ebb : Nat} {z ez : List Value} {dd dd2 : TypeDesc} (ht : At P T (.slice e) sz bb z) (hte : At P e dd esz ebb ez) {base : Option Addr} {m c : Nat} {x : Value} (hu2 : P.underlying T2 = some dd2) (hni : ∀ kk, dd2 ≠ .int kk)
  (hmc : m ≤ c) {w : World} (hxl : (Builtin.lenOf x).run P w = .ok 0 w) (hxf : (Builtin.firstCells esz 0 x).run P w = .ok #[] w) :
  (Builtin.append_ #[T, T2] T #[.slice base m c, x]).run P w = .ok (.slice base m c) w := by
 unfold Builtin.append_
 simp only [List.getElem?_toArray, List.getElem?_cons_zero, List.getElem?_cons_succ]
 rw [Ac (Bc ht.und w)]
 simp only []
 rw [Ac (Fm hte w)]; rw [Ac (Bc hu2 w)]
 have hz : (match dd2 with | .int _ => true | _ => false) = false := by
  cases dd2 <;> first | rfl | exact absurd rfl (hni _)
 simp only [hz, pure_bind, Bool.false_eq_true, if_false, Bool.not_false, if_true]
 rw [Ac hxl]
 simp only [Nat.add_zero, if_pos hmc]
 rw [Ac hxf]
 cases base <;> rfl

def bv (b : UInt8) : Value := .int .u8 (b.toNat : Nat)
theorem M6 {s : List UInt8} {w : World} : (Builtin.firstCells 1 s.length (.string (str s))).run P w = .ok (s.map bv).toArray w := by
 simp only [Builtin.firstCells, F6]
 congr 1
 apply Array.ext'
 simp [str, ByteArray.data_extract, bv]
theorem Qj {s : List UInt8} {w : World} : (Builtin.lenOf (.string (str s))).run P w = .ok s.length w := by
 simp [Builtin.lenOf, F6, str, ByteArray.size]
theorem Zv (s : List UInt8) : (s.map bv).all Cx = true := by simp [bv, Cx]

theorem U4 {T T2 e : TypeId} {sz bb ebb sz2 bb2 : Nat} {z ez z2 : List Value} {dd : TypeDesc} [ht : At P T (.slice e) sz bb z] [hte : At P e dd 1 ebb ez] [ht2 : At P T2 .string sz2 bb2 z2]
  {x y : Operand} {B : Kd} {xs : List Value} {s : List UInt8} {m c : Nat} {L₀ : Bl} (hez : ez.length = 1)
  (hx : Ba E x = some (Cb m c B)) (hy : Ba E y = some (.string (str s))) (hB : Em 1 m c xs B) (hL : ∀ w, Mem I L w → Mem I (Ch e xs B ++ L₀) w)
  (hsize : (m + s.length) ≤ 4294967296) (hbytes : ebb ≤ 1024) (hg : Wants ops E g) (hdn : Nat.blt d n = true)
  (h : ∀ B' c', Em 1 (m + s.length) c' (xs ++ s.map bv) B' → (s ≠ [] → B' ≠ none) → (s = [] → B' = B) → A7 P f n I₀ Q ops l k ((d, Cb (m + s.length) c' B') :: E) I (Ch e (xs ++ s.map bv) B' ++ L₀)) :
  A7 P f n I₀ Q ops (⟨some d, .call ⟨.builtin .append, #[x, y], #[T, T2]⟩, T, pos, af, g⟩ :: l) k E I L := by
 refine Iq rfl hdn (fun a he => hg.wanted a he) fun a w he hm => ?_
 by_cases hs : s = []
 ·subst hs
  have hv : ∃ base cc, Cb m c B = .slice base m cc ∧ m ≤ cc ∧ cc = c := by
   cases B with
   | none => obtain ⟨h1, h2, h3⟩ := hB; exact ⟨none, 0, by simp [Cb, h2], by omega, h3.symm⟩
   | some p => exact ⟨_, c, rfl, hB.2.1, rfl⟩
  obtain ⟨base, cc, hbv, hmc, rfl⟩ := hv
  have := Lg (P := P) (T2 := T2) (base := base) (x := .string (str [])) (w := w) ht hte ht2.und (by intro kk; simp) hmc Qj M6
  refine ⟨_, w, I, _, ?_, hL w hm, by simpa using h B cc (by simpa using hB) (by simp) (fun _ => rfl)⟩
  simp only [execOp, resolve, List.map_toArray, List.map, he.eval hx, he.eval hy, pure_bind, invoke, builtin, hbv]
  exact Ac this |>.trans rfl
 ·have hpos := List.length_pos_iff.2 hs
  obtain ⟨w', B', c', hr, hne, hB', hm'⟩ := Mk (x := .string (str s)) (m2 := s.length) (ys := s.map bv) ht hte hez ht2.und (by intro kk; simp) hB (hL w hm) (by simp) (fun _ => Qj) (fun w hw => M6) (Zv s) hpos (by decide) hsize hbytes; refine ⟨_, w', I, _, ?_, hm', h B' c' hB' (fun _ => hne) (fun hh => absurd hh hs)⟩
  simp only [execOp, resolve, List.map_toArray, List.map, he.eval hx, he.eval hy, pure_bind, invoke, builtin]
  exact Ac hr |>.trans rfl

theorem Mem.frozen {b m : Nat} {o : Obj} {w : World} (h : Mem I ((b, o) :: L) w) : Mem I L (w.freeze ⟨b, 0, none⟩ m) := by
 obtain ⟨h1, h2, h3⟩ := h
 have hb := h2 (b, o) (.head _)
 have hn : b ∉ L.map (·.1) ∧ (L.map (·.1)).Nodup := List.nodup_cons.1 h3
 unfold World.freeze
 split
 ·exact ⟨h1, fun p hp => h2 p (.tail _ hp), hn.2⟩
 ·refine ⟨⟨fun c u hc => ?_, h1.2⟩, fun p hp => ⟨?_, (h2 p (.tail _ hp)).2⟩, hn.2⟩
  ·have hne : b ≠ c := fun e => by subst e; rw [hb.2] at hc; cases hc
   simp only [Array.getElem?_modify, if_neg hne]
   exact h1.1 c u hc
  ·have hne : b ≠ p.1 := fun e => hn.1 (e ▸ List.mem_map.2 ⟨p, hp, rfl⟩)
   simp only [Array.getElem?_modify, if_neg hne]
   exact (h2 p (.tail _ hp)).1


theorem Vz {S : World → Prop} {x : Operand} {a : Addr} {m c : Nat} {tys : Array TypeId} (hx : Ba E x = some (.slice (some a) m c)) (hc : c ≠ 0) :
  Gz P E S ⟨some d, .call ⟨.builtin .unsafeSliceData, #[x], tys⟩, ty, pos, af, g⟩ (.pointer (some a)) := fun ac w he _ => by
 simp only [execOp, resolve, List.map_toArray, List.map, he.eval hx, pure_bind, invoke, builtin]
 exact Ac (Lib.run_unsafeSliceData_row w _ _ _ _ _ hc) |>.trans rfl
theorem Tv {S : World → Prop} {x : Operand} {m c : Nat} {tys : Array TypeId} (hx : Ba E x = some (.slice none m c)) :
  Gz P E S ⟨some d, .call ⟨.builtin .unsafeSliceData, #[x], tys⟩, ty, pos, af, g⟩ (.pointer none) := fun ac w he _ => by
 simp only [execOp, resolve, List.map_toArray, List.map, he.eval hx, pure_bind, invoke, builtin]
 exact Ac (Lib.run_unsafeSliceData_nil w _ _ _ _) |>.trans rfl
theorem Pa {S : World → Prop} {x y : Operand} {pt it : TypeId} {oa : Option Addr} (hx : Ba E x = some (.pointer oa)) (hy : Ba E y = some (.int .i64 0)) :
  Gz P E S ⟨some d, .call ⟨.builtin .unsafeString, #[x, y], #[pt, it]⟩, ty, pos, af, g⟩ (.string (str [])) := fun ac w he _ => by
 simp only [execOp, resolve, List.map_toArray, List.map, he.eval hx, he.eval hy, pure_bind, invoke, builtin]
 exact Ac (Lib.run_unsafeString_none w _ _ _ _) |>.trans rfl
theorem Pq {S : World → Prop} {fuel : Nat} {listed listed' : Array Bool} (i : Nat) {x y : Operand} {pt it e sz bb : Nat} {z : List Value} [ht : At P pt (.pointer e) sz bb z] {b : Nat} {xs : List UInt8} {sp : List Value} {fr : Nat × Nat} {L₀ : Bl}
  (hi : ops[i]? = some ⟨some d, .call ⟨.builtin .unsafeString, #[x, y], #[pt, it]⟩, ty, pos, af, g⟩) (hc : decide (Region.ready .any ops listed = [i]) = true) (hl : listed' = listed.setIfInBounds i true)
  (hx : Ba E x = some (.pointer (some ⟨b, 0, none⟩))) (hy : Ba E y = some (.int .i64 (xs.length : Nat))) (he1 : P.cellsOf e = 1) (h0 : xs ≠ []) (hlen : xs.length ≤ 4294967296)
  (hL : ∀ w, Mem I L w → Mem I ((b, .cells (xs.map bv ++ sp).toArray e fr) :: L₀) w) (hS : Fe ops listed' = true ∨ ∀ w, Mem I L₀ w → S w) (hg : Wants ops E g) (hdn : Nat.blt d n = true)
  (h : Ct P f n I₀ Q ops S fuel listed' k ((d, .string (str xs)) :: E) I L₀) : Ct P f n I₀ Q ops S (fuel + 1) listed k E I L := by
 refine Mr i hi hc hl rfl hdn (fun a he => hg.wanted a he) fun a w he hm => ?_
 have hm' := hL w hm
 have hb := (hm'.2.1 _ (.head _)).1
 refine ⟨_, _, I, L₀, ?_, hm'.frozen (m := xs.length), hS, h⟩
 simp only [execOp, resolve, List.map_toArray, List.map, he.eval hx, he.eval hy, pure_bind, invoke, builtin]
 refine Ac (Lib.run_unsafeString_row w pt it ty e ht.und he1 b _ (N5 (.head _) hm') xs h0 (by simp) (by omega) ?_) |>.trans rfl
 intro j c hj; rw [Lo hb]
 have hjl : j < xs.length := by
  rcases Nat.lt_or_ge j xs.length with gg | gg
  ·exact gg
  ·simp [List.getElem?_eq_none gg] at hj
 simp only [Nat.zero_add, List.getElem?_toArray]
 rw [List.getElem?_append_left (by simpa using hjl), List.getElem?_map, hj]
 rfl

theorem Nc {m c : Nat} {B : Kd} : Fn (Cb m c B) = some [Cb m c B] := by cases B <;> rfl

end rules
theorem Mem.bl1 {I : Heap} {a p : Nat × Obj} {X L : Bl} {w : World} (h : Mem I (a :: p :: (X ++ L)) w) : Mem I (p :: (X ++ a :: L)) w := h.f1.perm (List.Perm.cons _ (List.perm_append_comm_assoc [a] X L))
theorem Mem.br1 {I : Heap} {a p : Nat × Obj} {X L : Bl} {w : World} (h : Mem I (p :: (X ++ a :: L)) w) : Mem I (a :: p :: (X ++ L)) w :=
 (h.perm (List.Perm.cons _ (List.perm_append_comm_assoc [a] X L).symm)).f1
def BOk (xs : Au) (B : Kd) (c : Nat) : Prop := Em 1 xs.length c (xs.map bv) B ∧ (B = none ∨ xs ≠ [])
def Zk (b : Nat) (pre : Bool) (xs : Au) (B : Kd) (c : Nat) (L : Bl) : Bl :=
 (b, .cells [.pointer (bif pre then some ⟨b, 0, none⟩ else none), Cb xs.length c B].toArray 60 (0, 0)) :: (Ch 5 (xs.map bv) B ++ L)

theorem Ge (b : Nat) (pre : Bool) (v2 : Value) (I : Heap) (L : Bl) : Fun Tryz.prog 137 [.pointer (some ⟨b, 0, none⟩)] I
  ((b, .cells [.pointer (bif pre then some ⟨b, 0, none⟩ else none), v2].toArray 60 (0, 0)) :: L)
  (fun v I' L' => v = .tuple #[] ∧ I = I' ∧ L' = (b, .cells [.pointer (some ⟨b, 0, none⟩), v2].toArray 60 (0, 0)) :: L) := by
 cases pre with
 | true =>
  refine Ai (by simp) ?_; refine Se rfl (Om rfl ?_); refine B0 rfl .free rfl ?_
  first | refine Oh rfl ?_ | refine Oj rfl ?_
  refine Cs rfl .free rfl ?_; refine U6 rfl rfl .free rfl ?_; refine Aa ?_
  first | refine Sf rfl (by simp) ?_ | refine Ap (by simp [look, Ba, *]) ?_
  refine Se rfl (Om rfl ?_); refine B0 rfl .free rfl ?_
  first | refine Oh rfl ?_ | refine Oj rfl ?_
  refine Cs rfl .free rfl ?_; refine Om rfl ?_; refine Y5 rfl rfl .free rfl ?_; refine Aa ?_
  first | refine Sf rfl (by simp) ?_ | refine Ap (by simp [look, Ba, *]) ?_
  refine Af ?_; refine L9 .nil ?_
  exact ⟨I, _, .refl _, fun _ h => h, rfl, rfl, rfl⟩
 | false =>
  refine Ai (by simp) ?_; refine Se rfl (Om rfl ?_); refine B0 rfl .free rfl ?_
  first | refine Oh rfl ?_ | refine Oj rfl ?_
  refine Cs rfl .free rfl ?_; refine U6 rfl rfl .free rfl ?_; refine Aa ?_
  first | refine St rfl (by simp) ?_ | refine Bj (by simp [look, Ba, *]) ?_
  refine Ah rfl (Om rfl (Om rfl ?_)); refine Wt rfl (.head _) (by decide) (by simp) .free rfl ?_; refine Aa7 (fn := Tryz.f177) (e := Extern.AbiNoEscape.same) Tryz.func177 (by kernel_rfl) (by kernel_rfl) (by kernel_rfl) (by kernel_rfl) (fun w => Lib.run_noEscape w _) rfl .free rfl ?_; refine Tb rfl (.head _) (by kernel_rfl) .free rfl ?_; refine B0 rfl .free rfl ?_
  first | refine Oh rfl ?_ | refine Oj rfl ?_
  refine Bk rfl rfl rfl rfl .free ?_; refine Aa ?_; refine L9 .nil ?_
  exact ⟨I, _, .refl _, fun _ h => h, rfl, rfl, rfl⟩

theorem H6 (b : Nat) (pre : Bool) (xs : Au) (B : Kd) (c : Nat) (s : Au) (hB : BOk xs B c) (hs : xs.length + s.length ≤ As) (I : Heap) (L : Bl) :
  Fun Tryz.prog 89 [.pointer (some ⟨b, 0, none⟩), .string (str s)] I (Zk b pre xs B c L)
  (fun v I' L' => v = .tuple #[.int .i64 (s.length : Nat), .nilIface] ∧ I = I' ∧ ∃ B' c', BOk (xs ++ s) B' c' ∧ L' = Zk b true (xs ++ s) B' c' L) := by
 unfold As at hs
 refine Ai (by simp) ?_; refine Se rfl (Oa rfl (Oa rfl (Aa (Se rfl (Om rfl ?_))))); refine Ca rfl (Ge b pre _ _ _) ?_; rintro _ _ _ _ ⟨rfl, rfl, rfl⟩; refine Aa (Se rfl (Om rfl (Om rfl ?_))); refine B0 rfl .free rfl ?_
 first | refine Oh rfl ?_ | refine Oj rfl ?_
 refine Cs rfl .free rfl ?_; refine Om rfl ?_; refine U4 (B := B) (xs := xs.map bv) (s := s) (m := xs.length) (c := c) (by rfl) rfl rfl hB.1 (fun _ h => h.u1) (by omega) (by decide) .free rfl ?_; intro B' c' hB' hne hsame; refine Dv (fun w h => h.perm (List.perm_middle (l₁ := Ch _ _ B'))) ?_; refine B0 rfl .free rfl ?_
 first | refine Oh rfl ?_ | refine Oj rfl ?_
 refine Tg rfl rfl Nc rfl (by first | rfl | (simp only [List.toList_toArray, List.all_cons, List.all_nil, Gw, Bool.and_true, Bool.true_and] <;> rfl)) (by first | exact u0 | exact u1 | exact u2 | exact u3 | exact u4 | exact u5 | exact u6) (by rfl) .free ?_; refine Aa (Se rfl (Om rfl ?_)); refine Cz rfl .free rfl ?_; refine Oa rfl (Oa rfl (Aa ?_)); refine Ad (.tmp rfl (.tmp rfl .nil)) ?_; refine ⟨I, _, .refl _, fun _ h => h, rfl, rfl, B', c', ⟨by simpa using hB', ?_⟩, by simp [Zk]⟩
 by_cases hs0 : s = []
 ·subst hs0; rw [hsame rfl]; simpa using hB.2
 ·exact .inr (by simp [hs0])
theorem Ff (b : Nat) (pre : Bool) (xs : Au) (B : Kd) (c : Nat) (u : UInt8) (hB : BOk xs B c) (hs : xs.length + 1 ≤ As) (I : Heap) (L : Bl) :
  Fun Tryz.prog 143 [.pointer (some ⟨b, 0, none⟩), .int .u8 (u.toNat : Nat)] I (Zk b pre xs B c L)
  (fun v I' L' => v = .nilIface ∧ I = I' ∧ ∃ B' c', BOk (xs ++ [u]) B' c' ∧ L' = Zk b true (xs ++ [u]) B' c' L) := by
 unfold As at hs
 refine Ai (by simp) ?_; refine Se rfl (Oa rfl (Aa (Se rfl (Om rfl ?_)))); refine Ca rfl (Ge b pre _ _ _) ?_; rintro _ _ _ _ ⟨rfl, rfl, rfl⟩; refine Aa (Se rfl (Om rfl (Om rfl ?_))); refine B0 rfl .free rfl ?_
 first | refine Oh rfl ?_ | refine Oj rfl ?_
 refine Cs rfl .free rfl ?_; refine Om rfl ?_; refine Ol rfl rfl ?_; intro b13; refine C2 (B := B) (xs := xs.map bv) (ys := [bv u]) (m := xs.length) (c := c) (by intro kk; simp) (by rfl) rfl rfl hB.1 (fun _ h => h.u2) (by rfl) (fun a ha => by cases ha; exact Br (.head _) (by rfl)) (by simp) (by rfl) (by decide) (by decide) (by omega) (by decide) .free rfl ?_; intro bb sp c' hB'; refine B0 rfl .free rfl ?_
 first | refine Oh rfl ?_ | refine Oj rfl ?_
 refine Bk rfl rfl rfl rfl .free ?_; refine Aa (Se rfl (Oa rfl (Aa (Ad (.tmp rfl .nil) ?_)))); refine ⟨I, _, .refl _, fun w h => Mem.sub (L' := (b, _) :: (bb, _) :: L) (by repeat (first | exact List.Sublist.refl _ | apply List.Sublist.cons_cons | apply List.Sublist.cons)) h.f2, rfl, rfl, some (bb, sp), c', ⟨by simpa using hB', .inr (by simp)⟩, by simp [Zk, Ch, Cb]⟩
theorem Jl (b : Nat) (pre : Bool) (xs : Au) (B : Kd) (c : Nat) (hB : BOk xs B c) (hs : xs.length ≤ As) (I : Heap) (L : Bl) :
  Fun Tryz.prog 46 [.pointer (some ⟨b, 0, none⟩)] I (Zk b pre xs B c L) (D2 (.string (str xs)) I L) := by
 unfold As at hs
 cases B with
 | none =>
  obtain ⟨⟨h1, h2, h3⟩, _⟩ := hB; obtain rfl : xs = [] := by simpa using h1
  refine Ai (by simp) ?_; refine Se rfl (Oa rfl (Aa (Ab ?_))); refine B8 12 rfl rfl ?_; refine Da 0 rfl (Ae rfl) ?_; refine Da 1 rfl (D5 rfl) ?_
  first | refine Da 2 rfl (Ag rfl) ?_ | refine Da 2 rfl (A9 rfl) ?_
  refine Dt 3 [12] rfl (Mm rfl) ?_; refine Da 4 rfl (Tv rfl) ?_; refine Da 5 rfl (Ae rfl) ?_; refine Da 6 rfl (D5 rfl) ?_
  first | refine Da 7 rfl (Ag rfl) ?_ | refine Da 7 rfl (A9 rfl) ?_
  refine Dt 8 [12] rfl (Mm rfl) ?_; refine Da 9 rfl (Fy rfl) ?_; refine Da 10 rfl (Pa rfl rfl) ?_; refine Da 11 rfl (Aw rfl) ?_; refine Ao (by kernel_rfl) ?_; refine Ad (.tmp rfl .nil) ?_; refine only rfl ?_
  simp [Cw, *]
 | some p =>
  obtain ⟨bb, sp⟩ := p
  have hne : xs ≠ [] := by rcases hB.2 with h | h <;> simp_all
  have hpos := List.length_pos_iff.2 hne
  have hc := hB.1.2.1
  refine Ai (by simp) ?_; refine Se rfl (Oa rfl (Aa (Ab ?_)))
  simp only [Zk, Ch, List.cons_append, List.nil_append]
  refine V6 I ((b, .cells [.pointer (bif pre then some ⟨b, 0, none⟩ else none), Cb xs.length c (some (bb, sp))].toArray 60 (0, 0)) :: L) 12 rfl rfl ?_; refine Da 0 rfl (Ae rfl) ?_; refine Da 1 rfl (D5 rfl) ?_
  first | refine Da 2 rfl (Ag rfl) ?_ | refine Da 2 rfl (A9 rfl) ?_
  refine Dt 3 [12] rfl (Mm rfl) ?_; refine Da 4 rfl (Vz rfl (by omega)) ?_; refine Da 5 rfl (Ae rfl) ?_; refine Da 6 rfl (D5 rfl) ?_
  first | refine Da 7 rfl (Ag rfl) ?_ | refine Da 7 rfl (A9 rfl) ?_
  refine Dt 8 [12] rfl (Mm rfl) ?_; refine Da 9 rfl (Fy rfl) ?_; refine Pq 10 rfl (by kernel_rfl) rfl rfl rfl (by kernel_rfl) hne (by omega) (fun _ h => h.f1) (.inr Am) .free rfl ?_; refine Da 11 rfl (Aw rfl) ?_; refine Ao (by kernel_rfl) ?_; refine Ad (.tmp rfl .nil) ?_; refine only rfl ?_
  simp [Cw, *]
structure WS where
 i : Nat
 pre : Bool
 B : Kd
 c : Nat
theorem Rr (ps : List Tree) (i : Nat) : (Gs (ps.take i)).length ≤ (Gs ps).length := by
 rcases Nat.le_total ps.length i with h | h
 ·rw [List.take_of_length_le h]; exact Nat.le_refl _
 ·cases ps with
  | nil => simp
  | cons t ts =>
   cases i with
   | zero => simp [Gs]
   | succ i =>
    have := Kw (ts.take i) (ts.drop i)
    rw [List.take_append_drop] at this
    simp [Gs, this]
theorem Sx : ∀ (n : Nat) {I : Heap} {t : Tree} {cs : List Value} (_ : SizeOf.sizeOf t < n) (_ : Rep I t cs) (b : Nat) (pre : Bool) (xs : Au) (B : Kd) (c : Nat) (_ : BOk xs B c) (_ : xs.length + t.text.length ≤ As) (L : Bl),
  Fun Tryz.prog 93 [.agg cs.toArray, .pointer (some ⟨b, 0, none⟩)] I (Zk b pre xs B c L)
  (fun v I' L' => v = .tuple #[] ∧ I = I' ∧ ∃ B' c', BOk (xs ++ t.text) B' c' ∧ L' = Zk b true (xs ++ t.text) B' c' L) := by
 intro n
 induction n with
 | zero => intro I t cs h; omega
 | succ n ihn =>
  intro I t cs hlt h b pre xs B c hB hz L; obtain ⟨oa, cc, vs, rfl, hl, hs, hn, hc, ha, hp⟩ := h.open
  unfold As at hp
  refine Ai (by simp) ?_; refine Se rfl ?_; refine Cd rfl rfl .free rfl ?_; intro b2; refine Aa (Ab (Se rfl ?_)); refine Cs rfl .free rfl ?_; refine Ca rfl (By h _) ?_; rintro _ _ _ _ ⟨rfl, rfl, rfl⟩; refine Aa ?_; refine Si rfl ?_ ?_
  ·intro c0
   have hta := t.text_atom (by simpa using c0)
   refine Se rfl (Om rfl ?_)
   first | refine Oh rfl ?_ | refine Oj rfl ?_
   refine Cs rfl .free rfl ?_; refine Dv (fun w h => Mem.bl1 h) ?_; refine Ca rfl (H6 b pre xs B c t.atom hB (by rw [← hta]; exact hz) _ _) ?_; rintro _ _ _ _ ⟨rfl, rfl, B1, c1, hB1, rfl⟩; refine Aa ?_; refine Ad .nil ?_
   exact ⟨I, _, .refl _, fun w h => (Mem.br1 h).drop, rfl, rfl, B1, c1, by rw [hta]; exact hB1, by rw [hta]; rfl⟩
  intro c0
  have hne : t.parts ≠ [] := by simpa using c0
  have htx := t.text_eq hne
  have hz' := hz
  rw [htx] at hz'
  simp only [List.length_append, List.length_cons, List.length_nil] at hz'
  refine Af (Ab (Se rfl ?_))
  first | refine Oh rfl ?_ | refine Oj rfl ?_
  refine Cs rfl .free rfl ?_; refine On rfl (Om rfl (Aa (Aj ?_))); refine Dy (X := WS) (fun x => t.parts.length - x.i) (fun x => [(1, .pointer (some ⟨b, 0, none⟩)), (13, .slice oa t.parts.length cc), (14, .int .i64 (t.parts.length : Nat)), (15, .int .i64 (x.i : Nat))]) (fun _ => I) (fun x => Zk b x.pre (xs ++ Gs (t.parts.take x.i)) x.B x.c L)
   (fun x => x.i ≤ t.parts.length ∧ BOk (xs ++ Gs (t.parts.take x.i)) x.B x.c ∧ (x.i = t.parts.length → x.pre = true)) ⟨0, pre, B, c⟩ ⟨by simp, by simpa [Gs] using hB, fun hh => by simp only at hh; exact absurd (List.length_eq_zero_iff.1 hh.symm) hne⟩ ⟨rfl, rfl, rfl, rfl, trivial⟩ (fun w hh => by simpa [Gs] using hh.drop) ?_
  rintro x ⟨hi, hxB, hxp⟩ ih; refine Se rfl (Oc rfl rfl rfl (Aa (Ab ?_))); refine Si rfl ?_ ?_
  ·intro c1; obtain ⟨x', hx, oa', c', hr, hst⟩ := Rep.at hl hs hn x.i (by omega)
   have htk := Qd t.parts x.i (by omega)
   have hlk := Rr t.parts (x.i + 1)
   rw [htk] at hlk
   simp only [List.length_append, List.length_cons] at hlk
   refine Af (Ab (Aj (Se rfl (Om rfl ?_)))); refine Cl rfl rfl _ rfl (by first | omega | exact Cg (by assumption) (by decide) | (simp; done) | (simp; omega) | decide | (simp at *; omega)) (by first | rfl | assumption) .free rfl ?_; refine Cs rfl .free rfl ?_; refine Ax .free rfl ?_; intro b5; refine Oa rfl ?_; refine Bk rfl rfl rfl rfl .free ?_; refine Aa (Ab (Se rfl (Om rfl (Oc rfl rfl rfl (Aa ?_))))); refine Si rfl ?_ ?_
   ·intro c2; refine Ah rfl (Om rfl ?_); refine Dv (fun w h => Mem.bl1 h) ?_; refine Ca rfl (Ff b x.pre _ x.B x.c 40 hxB (by rw [List.length_append]; unfold As at *; omega) _ _) ?_; rintro _ _ _ _ ⟨rfl, rfl, B1, c1, hB1, rfl⟩
    have e : xs ++ Gs (t.parts.take (x.i + 1)) = xs ++ Gs (t.parts.take x.i) ++ [40] ++ t.parts[x.i].text := by rw [htk, if_pos (by omega)]; simp
    refine Dv (fun w h => Mem.br1 h) ?_; refine Aa (Ah rfl ?_); refine Cs rfl .free rfl ?_; refine Om rfl ?_; refine Dv (fun w h => Mem.bl1 h) ?_; refine Ca rfl (ihn (by have := t.part_lt x.i (by omega); omega) hr b true _ B1 c1 hB1 (by simp only [List.length_append, List.length_cons, List.length_nil]; unfold As at *; omega) _) ?_; rintro _ _ _ _ ⟨rfl, rfl, B2, c2', hB2, rfl⟩; refine Dv (fun w h => (Mem.br1 h).drop) ?_; refine Aa (Al (Ah rfl ?_)); refine Or rfl rfl rfl ?_; refine Om rfl (Aa ?_)
    refine Bg (fun w hh => ?_) (Bo (E' := [(1, .pointer (some ⟨b, 0, none⟩)), (13, .slice oa t.parts.length cc), (14, .int .i64 (t.parts.length : Nat)), (15, .int .i64 ((x.i + 1 : Nat)))]) ⟨rfl, rfl, rfl, rfl, trivial⟩ (ih ⟨x.i + 1, true, B2, c2'⟩ ⟨by simp only; omega, by simp only; rw [e]; exact hB2, fun _ => rfl⟩ (by simp only; omega)))
    simp only; rw [e]; exact hh
   intro c2; refine Ah rfl (Om rfl ?_); refine Dv (fun w h => Mem.bl1 h) ?_; refine Ca rfl (Ff b x.pre _ x.B x.c 32 hxB (by rw [List.length_append]; unfold As at *; omega) _ _) ?_; rintro _ _ _ _ ⟨rfl, rfl, B1, c1, hB1, rfl⟩
   have e : xs ++ Gs (t.parts.take (x.i + 1)) = xs ++ Gs (t.parts.take x.i) ++ [32] ++ t.parts[x.i].text := by rw [htk, if_neg (by omega)]; simp
   refine Dv (fun w h => Mem.br1 h) ?_; refine Aa (Ah rfl ?_); refine Cs rfl .free rfl ?_; refine Om rfl ?_; refine Dv (fun w h => Mem.bl1 h) ?_; refine Ca rfl (ihn (by have := t.part_lt x.i (by omega); omega) hr b true _ B1 c1 hB1 (by simp only [List.length_append, List.length_cons, List.length_nil]; unfold As at *; omega) _) ?_; rintro _ _ _ _ ⟨rfl, rfl, B2, c2', hB2, rfl⟩; refine Dv (fun w h => (Mem.br1 h).drop) ?_; refine Aa (Al (Ah rfl ?_)); refine Or rfl rfl rfl ?_; refine Om rfl (Aa ?_)
   refine Bg (fun w hh => ?_) (Bo (E' := [(1, .pointer (some ⟨b, 0, none⟩)), (13, .slice oa t.parts.length cc), (14, .int .i64 (t.parts.length : Nat)), (15, .int .i64 ((x.i + 1 : Nat)))]) ⟨rfl, rfl, rfl, rfl, trivial⟩ (ih ⟨x.i + 1, true, B2, c2'⟩ ⟨by simp only; omega, by simp only; rw [e]; exact hB2, fun _ => rfl⟩ (by simp only; omega)))
   simp only; rw [e]; exact hh
  intro c1
  have hxi : x.i = t.parts.length := by omega
  rw [hxi, List.take_length] at hxB; refine Bw rfl ?_; rw [hxi, List.take_length]; refine Ah rfl (Om rfl ?_); refine Ca rfl (Ff b x.pre _ x.B x.c 41 hxB (by rw [List.length_append]; unfold As at *; omega) _ _) ?_; rintro _ _ _ _ ⟨rfl, rfl, B1, c1, hB1, rfl⟩; refine Aa ?_; refine L9 .nil ?_; refine ⟨I, _, .refl _, fun w h => h, rfl, rfl, B1, c1, ?_, ?_⟩
  ·rw [htx, ← List.append_assoc]; exact hB1
  ·rw [htx, ← List.append_assoc]

theorem Ov {I : Heap} {t : Tree} {cs : List Value} (h : Rep I t cs) (hz : t.text.length ≤ As) (L : Bl) : Fun Tryz.prog 49 [.agg cs.toArray] I L (D2 (.string (str t.text)) I L) := by
 obtain ⟨oa, c, vs, rfl, hl, hs, hn, hc, ha, hp⟩ := h.open; refine Ai (by simp) ?_; refine Se rfl ?_; refine Cd rfl rfl .free rfl ?_; intro b1; refine Oa rfl (Aa (Se rfl ?_)); refine Ax .free rfl ?_; intro b3; refine Aa (Se rfl ?_); refine Cs rfl .free rfl ?_; refine Dv (fun w hh => Mem.f1 hh) ?_; refine Dv (L' := Zk b3 false [] none 0 _) (fun w hh => Mem.f1 hh) ?_; refine Ca rfl (Sx _ (Nat.lt_succ_self _) h b3 false [] none 0 ⟨⟨rfl, rfl, rfl⟩, .inl rfl⟩ (by simpa using hz) _) ?_; rintro _ _ _ _ ⟨rfl, rfl, B1, c1, hB1, rfl⟩; refine Aa (Se rfl ?_)
 refine Ca rfl (Jl b3 true _ B1 c1 hB1 (by simpa using hz) _ _) ?_; rintro _ _ _ _ ⟨rfl, rfl, rfl⟩; refine Oa rfl (Aa (Ad (.tmp rfl .nil) ?_)); refine only rfl ?_
 simp [Cw, *]
def sv (s : Au) : Value := .string (str s)
structure Strs (I : Heap) (oa : Option Addr) (l : List Au) (c : Nat) : Prop where
 still : ∀ x, oa = some x → Still I x (l.map sv)
 nil : oa = none → l = []
 cap : l.length ≤ c
 len : l.length ≤ As
 each : ∀ s ∈ l, s.length ≤ As
theorem Strs.mono {I I' : Heap} {oa : Option Addr} {l : List Au} {c : Nat} (hle : HLe I I') (h : Strs I oa l c) : Strs I' oa l c :=
 ⟨fun x hx => (h.still x hx).mono hle, h.nil, h.cap, h.len, h.each⟩
theorem Strs.at {I : Heap} {oa : Option Addr} {l : List Au} {c : Nat} (h : Strs I oa l c) (i : Nat) (hi : i < l.length) : ∃ x, oa = some x ∧ Still I (x.add (i * 1)) [.string (str l[i])] := by
 cases oa with
 | none => have := h.nil rfl; subst this; simp at hi
 | some x =>
  refine ⟨x, rfl, (h.still x rfl).part (i * 1) ?_⟩; intro j hj; obtain rfl : j = 0 := by simpa using hj
  simp [hi, sv]

def Gc (l : List Au) (s : Au) : Nat → Option Nat
 | 0 => none
 | n + 1 => if l.getD n [] = s then some n else Gc l s n
def Cj (l : List Au) (s : Au) : Option Nat := Gc l s l.length
theorem J8 {l : List Au} {s : Au} : ∀ {n i : Nat}, Gc l s n = some i → i < n ∧ l.getD i [] = s := by
 intro n
 induction n with
 | zero => intro i h; simp [Gc] at h
 | succ n ih =>
  intro i h
  simp only [Gc] at h
  split at h
  ·simp at h; subst h; exact ⟨by omega, by assumption⟩
  ·have := ih h; exact ⟨by omega, this.2⟩
def S4 : Option Nat → Int
 | some i => i
 | none => -1

theorem Uj {I : Heap} {oa : Option Addr} {l : List Au} {c : Nat} (h : Strs I oa l c) (s : Au) (L : Bl) : Fun Tryz.prog 130 [.slice oa l.length c, .string (str s)] I L (D2 (.int .i64 (S4 (Cj l s))) I L) := by
 have hlen := h.len
 unfold As at hlen
 refine Ai (by simp) ?_; refine Se rfl (Oa rfl (Aa (Ab (Se rfl (Om rfl (On rfl ?_)))))); refine Or rfl rfl rfl ?_; refine Oa rfl (Aa (Aj ?_)); refine Dy (X := Nat) (fun n => n) (fun n => [(0, .slice oa l.length c), (1, .string (str s)), (5, .int .i64 ((n : Int) - 1))]) (fun _ => I) (fun _ => L) (fun n => n ≤ l.length ∧ Cj l s = Gc l s n) l.length ⟨Nat.le_refl _, rfl⟩ ⟨rfl, rfl, rfl, trivial⟩ Ay ?_; rintro n ⟨hn, hl⟩ ih; refine Ab (Se rfl (Om rfl (Oc rfl rfl rfl (Aa ?_)))); refine Si rfl ?_ ?_
 ·intro c0; obtain ⟨m, rfl⟩ : ∃ m, n = m + 1 := ⟨n - 1, by omega⟩; obtain ⟨x, hx, hst⟩ := h.at m (by omega); refine Kc (t := 5) (v' := .int .i64 (m : Nat)) rfl (by congr 1; omega) ?_
  simp only [Gc, List.getD_eq_getElem?_getD, List.getElem?_eq_getElem (show m < l.length by omega), Option.getD_some] at hl
  refine Af (Ab (Aj (Se rfl (Om rfl (Om rfl ?_))))); refine Cl rfl rfl _ rfl (by first | omega | exact Cg (by assumption) (by decide) | (simp; done) | (simp; omega) | decide | (simp at *; omega)) (by first | rfl | assumption) .free rfl ?_; refine Cs rfl .free rfl ?_; refine Om rfl (Od rfl rfl rfl (Aa ?_)); refine Si rfl ?_ ?_
  ·intro c1; refine Se rfl (Om rfl (Oa rfl (Aa (Ad (.tmp rfl .nil) ?_)))); refine only rfl ?_; rw [hl, if_pos (by assumption)]; rfl
  intro c1; refine Af (Al (Ah rfl (Om rfl ?_))); refine Or rfl rfl rfl ?_; refine Oa rfl (Aa ?_); refine Bo (E' := [(0, .slice oa l.length c), (1, .string (str s)), (5, .int .i64 ((m : Int) - 1))]) ⟨rfl, rfl, rfl, trivial⟩ (ih m ⟨by omega, ?_⟩ (by omega)); rw [hl, if_neg (by assumption)]
 intro c0; refine Bw rfl ?_; refine Se rfl (Oa rfl (Aa (Ad (.tmp rfl .nil) ?_))); refine only rfl ?_; obtain rfl : n = 0 := by omega
 rw [hl]; rfl

def S8 (names types : List Au) (s : Au) : Au := match Cj names s with
 | some i => types.getD i []
 | none => []
theorem Aag {I : Heap} {oa ob : Option Addr} {l m : List Au} {c c' : Nat} (h : Strs I oa l c) (h' : Strs I ob m c') (hlm : l.length = m.length) (s : Au) (L : Bl) :
  Fun Tryz.prog 194 [.slice oa l.length c, .slice ob m.length c', .string (str s)] I L (D2 (.string (str (S8 l m s))) I L) := by
 have hlen := h.len
 unfold As at hlen
 refine Ai (by simp) ?_; refine Se rfl (Oa rfl (Aa (Ab (Se rfl (Om rfl (On rfl ?_)))))); refine Or rfl rfl rfl ?_; refine Oa rfl (Aa (Aj ?_)); refine Dy (X := Nat) (fun n => n) (fun n => [(0, .slice oa l.length c), (1, .slice ob m.length c'), (2, .string (str s)), (7, .int .i64 ((n : Int) - 1))]) (fun _ => I) (fun _ => L) (fun n => n ≤ l.length ∧ Cj l s = Gc l s n) l.length ⟨Nat.le_refl _, rfl⟩ ⟨rfl, rfl, rfl, rfl, trivial⟩ Ay ?_; rintro n ⟨hn, hl⟩ ih; refine Ab (Se rfl (Om rfl (Oc rfl rfl rfl (Aa ?_)))); refine Si rfl ?_ ?_
 ·intro c0; obtain ⟨k, rfl⟩ : ∃ k, n = k + 1 := ⟨n - 1, by omega⟩; obtain ⟨x, hx, hst⟩ := h.at k (by omega); obtain ⟨y, hy, hst'⟩ := h'.at k (by omega); refine Kc (t := 7) (v' := .int .i64 (k : Nat)) rfl (by congr 1; omega) ?_
  simp only [Gc, List.getD_eq_getElem?_getD, List.getElem?_eq_getElem (show k < l.length by omega), Option.getD_some] at hl
  refine Af (Ab (Aj (Se rfl (Om rfl (Om rfl ?_))))); refine Cl rfl rfl _ rfl (by first | omega | exact Cg (by assumption) (by decide) | (simp; done) | (simp; omega) | decide | (simp at *; omega)) (by first | rfl | assumption) .free rfl ?_; refine Cs rfl .free rfl ?_; refine Om rfl (Od rfl rfl rfl (Aa ?_)); refine Si rfl ?_ ?_
  ·intro c1; refine Se rfl (Om rfl (Om rfl ?_)); refine Cl rfl rfl _ rfl (by first | omega | exact Cg (by assumption) (by decide) | (simp; done) | (simp; omega) | decide | (simp at *; omega)) (by first | rfl | assumption) .free rfl ?_; refine Cs rfl .free rfl ?_; refine Oa rfl (Aa (Ad (.tmp rfl .nil) ?_)); refine only rfl ?_; rw [if_pos (by assumption)] at hl
   simp only [S8, hl]; simp [Cw, show k < m.length by omega]
  intro c1; refine Af (Al (Ah rfl (Om rfl ?_))); refine Or rfl rfl rfl ?_; refine Oa rfl (Aa ?_); refine Bo (E' := [(0, .slice oa l.length c), (1, .slice ob m.length c'), (2, .string (str s)), (7, .int .i64 ((k : Int) - 1))]) ⟨rfl, rfl, rfl, rfl, trivial⟩ (ih k ⟨by omega, ?_⟩ (by omega)); rw [hl, if_neg (by assumption)]
 intro c0; refine Bw rfl ?_; refine Se rfl (Oa rfl (Aa (Ad (.tmp rfl .nil) ?_))); refine only rfl ?_; obtain rfl : n = 0 := by omega
 simp only [S8, hl, Gc]; rfl

def Gv (names types : List Au) : Bool := decide (names.length ≤ 8) && decide (names.length = types.length) && names.all Bs && types.all fun s => (Fc s).isSome
theorem Zr {α : Type} {p : α → Bool} {l : List α} {i : Nat} (h : (l.take i).all p = true) (hi : i < l.length) (hp : p l[i] = true) : (l.take (i + 1)).all p = true := by
 rw [List.take_succ_eq_append_getElem hi, List.all_append, h]; simp [hp]
theorem Pd {α : Type} {p : α → Bool} {l : List α} {i : Nat} (hi : i < l.length) (hp : p l[i] = false) : l.all p = false := by
 rw [List.all_eq_false]; exact ⟨l[i], List.getElem_mem hi, by simp [hp]⟩
theorem Vs {s : Au} {t : Tree} {ok : Bool} (h : match C0 s with | some t0 => ok = t0.typed ∧ t = t0 | none => ok = false) : Fc s = bif ok then some t else none := by
 unfold Fc
 cases hp : C0 s with
 | none => rw [hp] at h; simp only at h; subst h; rfl
 | some t0 => rw [hp] at h; obtain ⟨rfl, rfl⟩ := h; rfl
structure ES where
 I : Heap
 i : Nat
 ts : List Tree
 B : Kd
 c : Nat
 xs : List Value
structure Adn (I : Heap) (l m : List Au) (x : ES) : Prop where
 hle : HLe I x.I
 hrl : RepL x.I x.ts x.xs
 hB : Em 2 x.i x.c x.xs x.B
 hlen : x.i = x.ts.length
 hi : x.i ≤ m.length
 hts : (m.take x.i).map Fc = x.ts.map some
 hall : (l.take x.i).all Bs = true

def RE (oa : Option Addr) (l m : List Au) (c : Nat) (L : Bl) : C1 := fun v I' L' => ∃ oa' n c2 ob' ts c3, v = .tuple #[.agg [.slice oa' n c2, .slice ob' (List.length ts) c3].toArray, .bool (Gv l m)] ∧ L = L' ∧
 Rep I' (.node [] ts) [.string (str []), .slice ob' ts.length c3] ∧ (Gv l m = true → oa' = oa ∧ n = l.length ∧ c2 = c ∧ m.map Fc = ts.map some)
theorem Xa {oa : Option Addr} {l m : List Au} {c : Nat} {L : Bl} {I : Heap} (h : Gv l m = false) : RE oa l m c L (Cw [.agg #[.slice none 0 0, .slice none 0 0], .bool false]) I L :=
 ⟨none, 0, 0, none, [], 0, by rw [h]; rfl, rfl, Rep.empty I, by rw [h]; intro e; cases e⟩
theorem Yw {l m : List Au} (h : Gv l m = true) : l.length ≤ 8 ∧ l.length = m.length ∧ l.all Bs = true ∧ ∀ s ∈ m, (Fc s).isSome = true := by
 simpa [Gv, and_assoc] using h

theorem X7        {I : Heap} {oa ob : Option Addr} {l m : List Au } {c c' : Nat} (h : Strs I oa l c) (h' : Strs I ob m c') (L : Bl ) :
    Fun Tryz.prog 60 [.slice oa l.length c, .slice ob m.length c'] I L (RE oa l m c L) := by
  have hlen := h.len
  have hlen' := h'.len
  unfold As   at hlen hlen'
  refine Ai        (by simp) ?_
  refine Se rfl ?_
  refine Ax      .free rfl ?_
  intro b4
  refine Oa rfl (Aa     (Ab    (Se rfl (Om rfl (On rfl (Oc rfl rfl rfl (Om rfl ?_)))))))
  first | refine Gb   rfl rfl ?_ ?_ | refine Ev    rfl rfl ?_ ?_ | refine K0  rfl rfl ?_ ?_
  · intro g1_4
    iterate 5 refine Ci     rfl rfl rfl ?_
    refine Ot rfl rfl (Aa     ?_)
    refine Bj     rfl ?_
    refine Se rfl ?_
    refine Bn       rfl rfl rfl .free rfl ?_
    refine Bk   rfl rfl rfl rfl .free ?_
    refine Oa rfl (Aa     ?_)
    refine Ad    (.c rfl (.tmp rfl .nil)) ?_
    refine ⟨I, L, .refl _, fun _ h => h.drop, Xa    ?_⟩
    first | (have hn : ¬ l.length ≤ 8 := by omega
             simp [Gv   , hn]) | (have hn : ¬ l.length = m.length := by omega
                                  simp [Gv   , hn])
  intro g1_4
  refine Ow rfl ?_
  refine Gg          rfl (.met rfl rfl) rfl ?_
  refine Ow rfl ?_
  refine Gg          rfl (.met rfl rfl) rfl ?_
  refine Dr    rfl rfl rfl (.met rfl rfl) rfl ?_
  refine Of rfl rfl (Aa     ?_)
  refine Si rfl ?_ ?_
  · intro c0
    refine Se rfl ?_
    refine Bn       rfl rfl rfl .free rfl ?_
    refine Bk   rfl rfl rfl rfl .free ?_
    refine Oa rfl (Aa     ?_)
    refine Ad    (.c rfl (.tmp rfl .nil)) ?_
    refine ⟨I, L, .refl _, fun _ h => h.drop, Xa    ?_⟩
    first | (have hn : ¬ l.length ≤ 8 := by omega
             simp [Gv   , hn]) | (have hn : ¬ l.length = m.length := by omega
                                  simp [Gv   , hn])
  intro c0
  refine Af     (Se rfl (Om rfl ?_))
  refine Bn       rfl rfl rfl .free rfl ?_
  refine Ax      .free rfl ?_
  intro b6
  refine Bk   rfl rfl rfl rfl .free ?_
  refine Aa     (Ab    (Se rfl (Om rfl (On rfl (Om rfl (Aa     (Aj      ?_)))))))
  refine Dy      (X := ES) (fun x => m.length - x.i) (fun x => [(0, .slice oa l.length c), (4, .pointer (some ⟨b4, 0, none⟩)), (6, .pointer (some ⟨b6, 0, none⟩)), (24, .slice ob m.length c'), (25, .int .i64 (m.length : Nat)), (26, .int .i64 (x.i : Nat))]) (fun x => x.I)
      (fun x => (b6, .cells [.slice oa l.length c, Cb     x.i x.c x.B].toArray 84 (0, 0)) :: (b4, .cells [.slice none 0 0, .slice none 0 0].toArray 84 (0, 0)) :: (Ch     49 x.xs x.B ++ L)) (Adn   I l m) ⟨I, 0, [], none, 0, []⟩
      ⟨.refl _, .nil, ⟨rfl, rfl, rfl⟩, rfl, Nat.zero_le _, rfl, rfl⟩ ⟨rfl, rfl, rfl, rfl, rfl, rfl, trivial⟩ (fun _ h => h) ?_
  rintro x ⟨hle, hrl, hB, hxl, hxi, hts, hall⟩ ih
  refine Se rfl (Oc rfl rfl rfl (Aa     (Ab    ?_)))
  refine Si rfl ?_ ?_
  · intro c1
    obtain ⟨y, hy, hst⟩ := (h'.mono hle).at x.i (by omega)
    have hey := h'.each _ (List.getElem_mem (show x.i < m.length by omega))
    refine Af     (Ab    (Aj      (Se rfl (Om rfl ?_))))
    refine Cl           rfl rfl _ rfl (by first | omega | exact Cg    (by assumption) (by decide) | (simp; done) | (simp; omega) | decide | (simp at *; omega)) (by first | rfl | assumption) .free rfl ?_
    refine Cs   rfl .free rfl ?_
    refine Oa rfl (Oa rfl (Aa     (Se rfl (Om rfl ?_))))
    refine Ca rfl (Wd         m[x.i] hey _ _) ?_
    rintro _ J _ hleJ ⟨t, cs, ok, rfl, hrep, rfl, hpf⟩
    obtain ⟨oq, cq, vs, rfl, -⟩ := hrep.open
    have htO := Vs          hpf
    obtain ⟨z, hz, hst2⟩ := ((h.mono hle).mono hleJ).at x.i (by omega)
    have hez := h.each _ (List.getElem_mem (show x.i < l.length by omega))
    refine Om rfl (Oe rfl rfl (Oe rfl rfl ?_))
    refine Ax      .free rfl ?_
    intro b9
    refine Bk   rfl rfl rfl rfl .free ?_
    refine Oa rfl (Aa     (Ab    (Se rfl (Om rfl ?_))))
    refine Ck    rfl .free rfl ?_
    refine Om rfl ?_
    first | refine Gb   rfl rfl ?_ ?_ | refine Ev    rfl rfl ?_ ?_ | refine K0  rfl rfl ?_ ?_
    · intro g8_3
      iterate 6 refine Ci     rfl rfl rfl ?_
      refine Ot rfl rfl (Aa     ?_)
      refine Bj     rfl ?_
      refine Se rfl ?_
      refine Bn       rfl rfl rfl .free rfl ?_
      refine Bk   rfl rfl rfl rfl .free ?_
      refine Oa rfl (Aa     ?_)
      refine Ad    (.c rfl (.tmp rfl .nil)) ?_
      refine ⟨J, L, hle.trans hleJ, fun w h => h.sub ((((List.sublist_append_right _ _).cons _).cons _).cons _), Xa    ?_⟩
      first
        | (have hnt : Fc     m[x.i] = none := by rw [htO]; simp_all
           have := Pd      (p := fun s => (Fc     s).isSome) (show x.i < m.length by omega) (by simp [hnt])
           simp [Gv   , this]; done)
        | (have hnn : Bs     l[x.i] = false := by simp_all
           have := Pd      (p := Bs    ) (show x.i < l.length by omega) hnn
           simp [Gv   , this]; done)
    intro g8_3
    refine Ow rfl (Ow rfl ?_)
    refine Cl           rfl rfl _ rfl (by first | omega | exact Cg    (by assumption) (by decide) | (simp; done) | (simp; omega) | decide | (simp at *; omega)) (by first | rfl | assumption) (.met rfl rfl) rfl ?_
    refine Cs   rfl (.met rfl rfl) rfl ?_
    refine Ce     rfl (.met rfl rfl) rfl (Hi       l[x.i] hez _ _) ?_
    rintro _ _ _ _ ⟨rfl, rfl, rfl⟩
    refine Ck    rfl (.met rfl rfl) rfl ?_
    refine Of rfl rfl (Aa     ?_)
    refine Si rfl ?_ ?_
    · intro c2
      refine Se rfl ?_
      refine Bn       rfl rfl rfl .free rfl ?_
      refine Bk   rfl rfl rfl rfl .free ?_
      refine Oa rfl (Aa     ?_)
      refine Ad    (.c rfl (.tmp rfl .nil)) ?_
      refine ⟨J, L, hle.trans hleJ, fun w h => h.sub ((((List.sublist_append_right _ _).cons _).cons _).cons _), Xa    ?_⟩
      first
        | (have hnt : Fc     m[x.i] = none := by rw [htO]; simp_all
           have := Pd      (p := fun s => (Fc     s).isSome) (show x.i < m.length by omega) (by simp [hnt])
           simp [Gv   , this]; done)
        | (have hnn : Bs     l[x.i] = false := by simp_all
           have := Pd      (p := Bs    ) (show x.i < l.length by omega) hnn
           simp [Gv   , this]; done)
    intro c2
    refine Af     (Ah      rfl ?_)
    first | refine Oh rfl ?_ | refine Oj rfl ?_
    refine Cs   rfl .free rfl ?_
    refine Cs   rfl .free rfl ?_
    refine Ol rfl rfl ?_
    intro b50
    refine C2       (B := x.B) (xs := x.xs) (ys := [.string (str t.atom), .slice oq t.parts.length cq]) (m := x.i) (c := x.c) (by intro kk; simp) (by rfl) rfl rfl hB (fun _ h => h.u4) (by rfl) (fun a ha => by cases ha; exact Br         (.head _) (by rfl)) (by simp) (by rfl) (by decide) (by decide) (by omega) (by decide) .free rfl ?_
    intro bb sp c2 hB'
    first | refine Oh rfl ?_ | refine Oj rfl ?_
    refine Bk   rfl rfl rfl rfl .free ?_
    refine Aa     (Al        (Ah      rfl ?_))
    refine Or rfl rfl rfl ?_
    refine Om rfl (Aa     ?_)
    refine Bg    (fun w h => Mem.sub (L' := (b6, _) :: (b4, _) :: (bb, _) :: L) (by repeat (first | exact List.Sublist.refl _ | apply List.Sublist.cons_cons | apply List.Sublist.cons)) h.f4.f4) (Bo    (E' := [(0, .slice oa l.length c), (4, .pointer (some ⟨b4, 0, none⟩)), (6, .pointer (some ⟨b6, 0, none⟩)), (24, .slice ob m.length c'), (25, .int .i64 (m.length : Nat)), (26, .int .i64 ((x.i + 1 : Nat)))]) ⟨rfl, rfl, rfl, rfl, rfl, rfl, trivial⟩ (ih ⟨J, x.i + 1, x.ts ++ [t], some (bb, sp), c2, _⟩ ⟨hle.trans hleJ, (hrl.mono hleJ).append (.cons hrep .nil), hB', by simp [hxl], by simp only; omega, ?_, Zr       hall (by omega) (by simp_all)⟩ (by simp only; omega)))
    simp only [List.map_append, List.map_cons, List.map_nil]
    rw [List.take_succ_eq_append_getElem (by omega), List.map_append, hts, List.map_cons, List.map_nil, htO]
    simp_all
  intro c1
  obtain ⟨J, i, ts, B, cc, xs⟩ := x
  simp only at hle hrl hB hxl hxi hts hall c1
  obtain rfl : i = m.length := by omega
  rw [List.take_length] at hts
  rw [List.take_of_length_le (by omega)] at hall
  refine Bw     rfl ?_
  refine Ab    ?_
  refine Bg    (fun w h => h.u2) (Li          (a := []) hrl hB hxl (by simp [As  ]) (by unfold As  ; omega) ?_)
  intro J2 hle2 hrep2
  refine Ah      rfl ?_
  refine Cs   rfl .free rfl ?_
  refine Bk   rfl rfl rfl rfl .free ?_
  refine Oa rfl (Aa     ?_)
  refine Ad    (.c rfl (.tmp rfl .nil)) ?_
  have he : Gv    l m = true := by
    have h1 : ∀ s ∈ m, (Fc     s).isSome = true := by
      intro s hs
      have h2 : Fc     s ∈ m.map Fc     := List.mem_map.2 ⟨s, hs, rfl⟩
      rw [hts] at h2
      obtain ⟨t, _, ht⟩ := List.mem_map.1 h2
      rw [← ht]; rfl
    simp only [Gv   , hall, List.all_eq_true.2 h1]
    simp; omega
  obtain ⟨o3, c3, _, h3, -⟩ := hrep2.open
  simp only [List.cons.injEq, and_true, Tree.parts, Tree.atom] at h3
  rw [h3.2] at hrep2
  exact ⟨J2, L, hle.trans hle2, fun _ h => h.drop.drop, oa, _, _, o3, ts, c3, by rw [he, h3.2]; rfl, rfl, hrep2, fun _ => ⟨rfl, rfl, rfl, hts⟩⟩

def LK (o : Option Nat) (ts : List Tree) (I : Heap) (L : Bl) : C1 := fun v I' L' => ∃ t cs ok, v = .tuple #[.agg cs.toArray, .bool ok] ∧ I = I' ∧ L = L' ∧ Rep I t cs ∧ ok = o.isSome ∧ ∀ i, o = some i → ts[i]? = some t
theorem Wb {I : Heap} {oa ob : Option Addr} {l : List Au} {ts : List Tree} {c c' : Nat} (h : Strs I oa l c) (h' : Rep I (.node [] ts) [.string (str []), .slice ob ts.length c']) (hlt : l.length = ts.length) (s : Au) (L : Bl) :
  Fun Tryz.prog 154 [.agg [.slice oa l.length c, .slice ob ts.length c'].toArray, .string (str s)] I L (LK (Cj l s) ts I L) := by
 have hlen := h.len
 unfold As at hlen
 refine Ai (by simp) ?_; refine Se rfl ?_; refine Cd rfl rfl .free rfl ?_; intro b2; refine Ax .free rfl ?_; intro b4; refine Oa rfl (Aa (Se rfl ?_))
 first | refine Oh rfl ?_ | refine Oj rfl ?_
 refine Cs rfl .free rfl ?_; refine Om rfl ?_; refine Ca rfl (Uj h s _) ?_; rintro _ _ _ _ ⟨rfl, rfl, rfl⟩; refine Oa rfl (Aa (Ab (Se rfl (Om rfl (Oc rfl rfl rfl (Aa ?_)))))); refine Si rfl ?_ ?_
 ·intro c0
  have hn : Cj l s = none := by
   cases hp : Cj l s with
   | none => rfl
   | some i => rw [hp] at c0; simp [S4] at c0; omega
  refine Se rfl ?_; refine Bn rfl rfl rfl .free rfl ?_; refine Bk rfl rfl rfl rfl .free ?_; refine Oa rfl (Aa ?_); refine Ad (.c rfl (.tmp rfl .nil)) ?_
  exact ⟨I, L, .refl _, fun _ h => h.drop.drop, _, _, false, rfl, rfl, rfl, Rep.empty I, by rw [hn]; rfl, by rw [hn]; intro i h; cases h⟩
 intro c0; obtain ⟨i, hp⟩ : ∃ i, Cj l s = some i := by
  cases hp : Cj l s with
  | none => rw [hp] at c0; simp [S4] at c0
  | some i => exact ⟨i, rfl⟩
 have hil : i < ts.length := by rw [← hlt]; exact (J8 hp).1
 obtain ⟨o3, c3, vs, h3, hrl, hs, hn, -⟩ := h'.open
 simp only [List.cons.injEq, and_true, Tree.parts, Tree.atom] at h3
 obtain ⟨-, h3⟩ := h3
 simp only [Value.slice.injEq, true_and] at h3
 obtain ⟨rfl, rfl⟩ := h3; obtain ⟨x, hx, oq, cq, hr, hst⟩ := Rep.at hrl hs hn i hil; rw [hp]
 simp only [S4, Tree.parts] at hr hst ⊢
 refine Af (Se rfl ?_)
 first | refine Oh rfl ?_ | refine Oj rfl ?_
 refine Cs rfl .free rfl ?_; refine Om rfl ?_; refine Cl rfl rfl _ rfl (by first | omega | exact Cg (by assumption) (by decide) | (simp; done) | (simp; omega) | decide | (simp at *; omega)) (by first | rfl | assumption) .free rfl ?_; refine Cs rfl .free rfl ?_; refine Bk rfl rfl rfl rfl .free ?_; refine Oa rfl (Aa ?_); refine Ad (.c rfl (.tmp rfl .nil)) ?_
 exact ⟨I, L, .refl _, fun _ h => h.drop.drop, _, _, true, rfl, rfl, rfl, hr, rfl, by rintro _ ⟨⟩; exact List.getElem?_eq_getElem hil⟩

def Aeb (l m : List Au) (s : Au) : Option Au := bif Gv l m then (Cj l s).map fun i => m.getD i [] else none
def EL (o : Option Au) (L : Bl) : C1 := fun v I' L' => v = .tuple #[.string (str (o.getD [])), .bool o.isSome] ∧ L = L'
section rules
variable {P : Program} {f : FuncId} {n : Nat} {I₀ : Heap} {Q : C1} {k : List Item} {E : G7} {I : Heap} {L : Bl}
variable {ops : Array Oper} {d : Nat} {ty : TypeId} {pos : String} {af : Array Edge} {g : Option (Nat × Bool)} {l : List Oper}

theorem N2 {op : BinOp} {T : TypeId} {x y : Operand} {a b : Bool} (w : World) : (eqGuard op T x y (.bool a) (.bool b)).run P w = .ok () w := by
 unfold eqGuard; split <;> rfl
def Sg : BinOp → Bool → Bool → Option Bool
 | .eql, a, b => some (a == b)
 | .neq, a, b => some (!(a == b))
 | _, _, _ => none
theorem Adl {S : World → Prop} {op : BinOp} {T T' sz bb : Nat} {z : List Value} [ht : At P T .bool sz bb z] {x y : Operand} {a b r : Bool} (hx : Ba E x = some (.bool a)) (hy : Ba E y = some (.bool b)) (hr : Sg op a b = some r) :
  Gz P E S ⟨some d, .binOp op T x y T', ty, pos, af, g⟩ (.bool r) := fun ac w he _ => by
 simp only [execOp, he.eval hx, he.eval hy]
 refine Ac (a := _) (w' := w) ?_ |>.trans rfl
 rw [Ac (N2 w)]
 have h : ∀ d : Nat, (Op.equalIn (d + 1) T (.bool a) (.bool b)).run P w = .ok (a == b) w := fun d => by
  unfold Op.equalIn
  rw [Ac (Bc ht.und w)]
  rfl
 cases op <;> simp only [Sg, Option.some.injEq, reduceCtorEq] at hr
 ·subst hr
  simp only [binOp, Op.equal]
  exact Ac (h 9999) |>.trans rfl
 ·subst hr
  simp only [binOp, Op.equal]
  exact Ac (h 9999) |>.trans rfl
theorem Aa5 {op : BinOp} {T T' sz bb : Nat} {z : List Value} [ht : At P T .bool sz bb z] {x y : Operand} {a b r : Bool} (hx : Ba E x = some (.bool a)) (hy : Ba E y = some (.bool b)) (hr : Sg op a b = some r) (hg : Wants ops E g) (hdn : Nat.blt d n = true)
  (h : A7 P f n I₀ Q ops l k ((d, .bool r) :: E) I L) : A7 P f n I₀ Q ops (⟨some d, .binOp op T x y T', ty, pos, af, g⟩ :: l) k E I L := D4 (Adl hx hy hr) hg hdn h

theorem Hm {S : World → Prop} {T e : TypeId} {sz bb esz ebb : Nat} {z ez : List Value} {dd : TypeDesc} [ht : At P T (.slice e) sz bb z] [hte : At P e dd esz ebb ez] {x y : Operand} {oa : Option Addr} {ad : Addr} {m c : Nat} {i : Int}
  (hx : Ba E x = some (.slice oa m c)) (hy : Ba E y = some (.int .i64 i)) (i' : Nat) (hi : i = i') (him : i' < m) (hoa : oa = some ad) : Gz P E S ⟨some d, .indexAddr T x y, ty, pos, af, g⟩ (.pointer (some (ad.add (i' * esz)))) :=
 O7 (hoa ▸ hx) hy i' hi him

end rules
structure Raw (I : Heap) (oa : Option Addr) (l : List Au) (c : Nat) : Prop where
 still : ∀ x, oa = some x → Still I x (l.map sv)
 nil : oa = none → l = []
 cap : l.length ≤ c
 len : l.length ≤ 9223372036854775807
 each : ∀ s ∈ l, s.length ≤ 9223372036854775807
theorem Raw.at {I : Heap} {oa : Option Addr} {l : List Au} {c : Nat} (h : Raw I oa l c) (i : Nat) (hi : i < l.length) : ∃ x, oa = some x ∧ Still I (x.add (i * 1)) [.string (str l[i])] := by
 cases oa with
 | none => have := h.nil rfl; subst this; simp at hi
 | some x =>
  refine ⟨x, rfl, (h.still x rfl).part (i * 1) ?_⟩; intro j hj; obtain rfl : j = 0 := by simpa using hj
  simp [hi, sv]

def SZ (left : Nat) (l : List Au) (I : Heap) (L : Bl) : C1 := fun v I' L' => ∃ r : Int, v = .int .i64 r ∧ I = I' ∧ L = L' ∧ r ≤ left ∧ (0 ≤ r → l.length ≤ left ∧ ∀ s ∈ l, s.length ≤ left)
def TS (l : List Au) (L : Bl) : C1 := fun v I' L' => ∃ x, v = .slice (some x) l.length l.length ∧ Strs I' (some x) l l.length ∧ L = L'
section rules
variable {P : Program} {f : FuncId} {n : Nat} {I₀ : Heap} {Q : C1} {k : List Item} {E : G7} {I : Heap} {L : Bl}
variable {ops : Array Oper} {d : Nat} {ty : TypeId} {pos : String} {af : Array Edge} {g : Option (Nat × Bool)} {l : List Oper}

theorem Xu {S : World → Prop} {T T' : TypeId} {x y : Operand} {a b : Nat} (hx : Ba E x = some (.int .i64 (a : Nat))) (hy : Ba E y = some (.int .i64 (b : Nat))) (hb : 0 < b) :
  Gz P E S ⟨some d, .binOp .rem T x y T', ty, pos, af, g⟩ (.int .i64 ((a % b : Nat))) := fun ac w he _ => by
 simp only [execOp, he.eval hx, he.eval hy]
 refine Ac (a := _) (w' := w) ?_ |>.trans rfl
 rw [Ac (Fa w)]
 have h0 : ¬ ((b : Int) = 0) := by omega
 have h1 : ((a : Int).tmod (b : Int)) = ((a % b : Nat) : Int) := by rw [Int.ofNat_tmod]
 simp only [binOp, Op.intDiv, if_neg h0, h1, ne_eq, not_true_eq_false, if_false]; rfl
theorem Acz {T T' : TypeId} {x y : Operand} {a b : Nat} (hx : Ba E x = some (.int .i64 (a : Nat))) (hy : Ba E y = some (.int .i64 (b : Nat))) (hb : 0 < b) (hg : Wants ops E g) (hdn : Nat.blt d n = true)
  (h : A7 P f n I₀ Q ops l k ((d, .int .i64 ((a % b : Nat))) :: E) I L) : A7 P f n I₀ Q ops (⟨some d, .binOp .rem T x y T', ty, pos, af, g⟩ :: l) k E I L := D4 (Xu hx hy hb) hg hdn h
theorem Abt {S : World → Prop} {T T' : TypeId} {x y : Operand} {a b : Nat} (hx : Ba E x = some (.int .i64 (a : Nat))) (hy : Ba E y = some (.int .i64 (b : Nat))) (hb : 0 < b) (ha : a ≤ 9223372036854775807) :
  Gz P E S ⟨some d, .binOp .quo T x y T', ty, pos, af, g⟩ (.int .i64 ((a / b : Nat))) := fun ac w he _ => by
 simp only [execOp, he.eval hx, he.eval hy]
 refine Ac (a := _) (w' := w) ?_ |>.trans rfl
 rw [Ac (Fa w)]
 have h0 : ¬ ((b : Int) = 0) := by omega
 have h1 : ((a : Int).tdiv (b : Int)) = ((a / b : Nat) : Int) := by rw [Int.ofNat_tdiv]
 have h2 : IntKind.i64.wrap ((a / b : Nat) : Int) = ((a / b : Nat) : Int) := by
  obtain ⟨q, hq, hle⟩ : ∃ q, q = a / b ∧ q ≤ a := ⟨_, rfl, Nat.div_le_self a b⟩; rw [← hq]; exact Nd (by omega)
 simp only [binOp, Op.intDiv, if_neg h0, h1, h2, ne_eq, not_true_eq_false, if_false]; rfl
theorem Ad2 {T T' : TypeId} {x y : Operand} {a b : Nat} (hx : Ba E x = some (.int .i64 (a : Nat))) (hy : Ba E y = some (.int .i64 (b : Nat))) (hb : 0 < b) (ha : a ≤ 9223372036854775807) (hg : Wants ops E g) (hdn : Nat.blt d n = true)
  (h : A7 P f n I₀ Q ops l k ((d, .int .i64 ((a / b : Nat))) :: E) I L) : A7 P f n I₀ Q ops (⟨some d, .binOp .quo T x y T', ty, pos, af, g⟩ :: l) k E I L := D4 (Abt hx hy hb ha) hg hdn h
theorem Ad6 {S : World → Prop} {T T' : TypeId} {x y : Operand} {a b : Nat} (hx : Ba E x = some (.int .i64 (a : Nat))) (hy : Ba E y = some (.int .i64 (b : Nat))) (ha : a ≤ 9223372036854775807) (hb : b ≤ 9223372036854775807) :
  Gz P E S ⟨some d, .binOp .xor T x y T', ty, pos, af, g⟩ (.int .i64 ((a ^^^ b : Nat))) := fun ac w he _ => by
 simp only [execOp, he.eval hx, he.eval hy]
 refine Ac (a := _) (w' := w) ?_ |>.trans rfl
 rw [Ac (Fa w)]
 have hn : ∀ c : Nat, c ≤ 9223372036854775807 → (BitVec.ofInt 64 (c : Int)).toNat = c := fun c hc => by
  rw [BitVec.ofInt_natCast, BitVec.toNat_ofNat]; exact Nat.mod_eq_of_lt (by omega)
 have hlt : a ^^^ b < 2 ^ 63 := Nat.xor_lt_two_pow (by omega) (by omega)
 have h1 : (BitVec.ofInt IntKind.i64.bits (a : Int) ^^^ BitVec.ofInt IntKind.i64.bits (b : Int)).toNat = a ^^^ b := by
  show (BitVec.ofInt 64 (a : Int) ^^^ BitVec.ofInt 64 (b : Int)).toNat = _
  rw [BitVec.toNat_xor, hn a ha, hn b hb]
 have h2 : IntKind.i64.wrap ((a ^^^ b : Nat) : Int) = ((a ^^^ b : Nat) : Int) := Nd (by omega)
 simp only [binOp, Op.intBits, h1, h2, ne_eq, not_true_eq_false, if_false]; rfl
theorem Ad3 {T T' : TypeId} {x y : Operand} {a b : Nat} (hx : Ba E x = some (.int .i64 (a : Nat))) (hy : Ba E y = some (.int .i64 (b : Nat))) (ha : a ≤ 9223372036854775807) (hb : b ≤ 9223372036854775807) (hg : Wants ops E g) (hdn : Nat.blt d n = true)
  (h : A7 P f n I₀ Q ops l k ((d, .int .i64 ((a ^^^ b : Nat))) :: E) I L) : A7 P f n I₀ Q ops (⟨some d, .binOp .xor T x y T', ty, pos, af, g⟩ :: l) k E I L := D4 (Ad6 hx hy ha hb) hg hdn h

theorem N8 {S : World → Prop} {src dst sz bb sz2 bb2 : Nat} {z z2 : List Value} [hs : At P src (.int .u8) sz bb z] [hd : At P dst (.int .i64) sz2 bb2 z2] {x : Operand} {a : Nat} (hx : Ba E x = some (.int .u8 (a : Nat))) (ha : a < 256) :
  Gz P E S ⟨some d, .convert src dst x, ty, pos, af, g⟩ (.int .i64 (a : Nat)) := fun ac w he _ => by
 simp only [execOp, he.eval hx]
 refine Ac (a := .int .i64 (a : Nat)) (w' := w) ?_ |>.trans rfl
 unfold convert
 rw [Ac (Bc hs.und w), Ac (Bc hd.und w)]
 simp only [Conv.intToInt]
 rw [Nd (by omega)]
 rfl
theorem Ls {src dst sz bb sz2 bb2 : Nat} {z z2 : List Value} [hs : At P src (.int .u8) sz bb z] [hd : At P dst (.int .i64) sz2 bb2 z2] {x : Operand} {a : Nat} (hx : Ba E x = some (.int .u8 (a : Nat))) (ha : a < 256) (hg : Wants ops E g) (hdn : Nat.blt d n = true)
  (h : A7 P f n I₀ Q ops l k ((d, .int .i64 (a : Nat)) :: E) I L) : A7 P f n I₀ Q ops (⟨some d, .convert src dst x, ty, pos, af, g⟩ :: l) k E I L := D4 (N8 hx ha) hg hdn h
end rules

structure Bytes (I : Heap) (oa : Option Addr) (l : List UInt8) (c : Nat) : Prop where
 still : ∀ x, oa = some x → Still I x (l.map bv)
 nil : oa = none → l = []
 cap : l.length ≤ c
 len : l.length ≤ 9223372036854775807
theorem Bytes.mono {I I' : Heap} {oa : Option Addr} {l : List UInt8} {c : Nat} (hle : HLe I I') (h : Bytes I oa l c) : Bytes I' oa l c :=
 ⟨fun x hx => (h.still x hx).mono hle, h.nil, h.cap, h.len⟩
theorem Bytes.at {I : Heap} {oa : Option Addr} {l : List UInt8} {c : Nat} (h : Bytes I oa l c) (i : Nat) (hi : i < l.length) : ∃ x, oa = some x ∧ Still I (x.add (i * 1)) [.int .u8 (l[i].toNat : Nat)] := by
 cases oa with
 | none => have := h.nil rfl; subst this; simp at hi
 | some x =>
  refine ⟨x, rfl, (h.still x rfl).part (i * 1) ?_⟩; intro j hj; obtain rfl : j = 0 := by simpa using hj
  simp [hi, bv]
end Go.Proofs.YtmfagaajiakgoaaGreatDoor
