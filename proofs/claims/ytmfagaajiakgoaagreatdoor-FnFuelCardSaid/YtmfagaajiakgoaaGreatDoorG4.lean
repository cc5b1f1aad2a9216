/- What reading a whole text returns. No conditions. -/
import Derived.Test.YtmfagaajiakgoaaGreatDoorG3
import Derived.Lib.Builder
import Derived.Lib.UnsafeStr
import Derived.Laws.MakeOwn

namespace Go.Proofs.YtmfagaajiakgoaaGreatDoor
set_option maxRecDepth 100000
set_option linter.unusedVariables false
set_option linter.unusedSimpArgs false

def RD (p : Option Tree) (L : Bl ) : Cx   := fun v I' L' => ∃ t cs ok, v = .tuple #[.agg cs.toArray, .bool ok] ∧ Rep I' t cs ∧ L = L' ∧
  (match p with
   | some t0 => ok = true ∧ t = t0
   | none => ok = false)

theorem Adt (s : As) (hs : s.length ≤ Bd) (I : Heap) (L : Bl) : Fun Tryz.prog 90 [.string (str s)] I L (RD (Df s) L) := by
 unfold Bd at hs
 refine Ao Ad ?_; refine Se rfl ?_; refine A5 .free rfl ?_; intro b2; refine Oa rfl (Ab (Ah (Se rfl (Om rfl ?_)))); refine Cy rfl .free rfl ?_; refine Oc rfl rfl rfl (Ab ?_); refine Si rfl ?_ ?_
 ·intro c0; refine Se rfl ?_; refine Cp rfl rfl rfl .free rfl ?_; refine By rfl rfl rfl rfl .free ?_; refine Oa rfl (Ab ?_); refine Al (.c rfl (.tmp rfl .nil)) ?_
  exact ⟨I, L, .refl _, fun _ h => h.drop, .node [] [], _, false, rfl, Rep.empty I, rfl, by rw [Df, if_pos Aa]⟩
 intro c0; refine Aj (Se rfl (Om rfl ?_)); refine Ca rfl (W8 60 s Aa 0 rfl _ _) ?_; rintro _ J _ hleJ ⟨t, cs, r, ok, rfl, hrep, rfl, hrlen, hpf⟩; obtain ⟨oa, cc, vs, rfl, -⟩ := hrep.open; refine Om rfl ?_
 iterate 3 refine Oe rfl rfl ?_
 refine A5 .free rfl ?_; intro b4; refine By rfl rfl rfl rfl .free ?_; refine Oa rfl (Oa rfl (Ab (Se rfl ?_))); refine Ct rfl .free rfl ?_; refine Om rfl (Om rfl ?_)
 first | refine Gr rfl rfl ?_ ?_ | refine E3 rfl rfl ?_ ?_ | refine Lw rfl rfl ?_ ?_
 ·intro g4_3; refine Ow rfl ?_; refine Ci rfl rfl rfl (.met rfl rfl) rfl ?_; refine Ot rfl rfl ?_; refine By rfl rfl rfl rfl .free ?_; refine Oa rfl (Ab ?_); refine Al (.c rfl (.tmp rfl .nil)) ?_; refine ⟨J, L, hleJ, fun _ h => h.drop.drop, t, _, _, rfl, hrep, rfl, ?_⟩; rw [Df, if_neg Aa]
  cases hp : El 60 s with
  | none => simp_all
  | some p =>
   obtain ⟨t0, r0⟩ := p; rw [hp] at hpf; obtain ⟨rfl, rfl, rfl⟩ := hpf
   cases r <;> simp_all
 intro g4_3; refine Ce rfl rfl rfl ?_; refine Ce rfl rfl rfl ?_; refine Of rfl rfl ?_; refine By rfl rfl rfl rfl .free ?_; refine Oa rfl (Ab ?_); refine Al (.c rfl (.tmp rfl .nil)) ?_; refine ⟨J, L, hleJ, fun _ h => h.drop.drop, t, _, _, rfl, hrep, rfl, ?_⟩; rw [Df, if_neg Aa]
 cases hp : El 60 s with
 | none => simp_all
 | some p =>
  obtain ⟨t0, r0⟩ := p; rw [hp] at hpf; obtain ⟨rfl, rfl, rfl⟩ := hpf
  cases r <;> simp_all

def RT (p : Option Tree) (L : Bl ) : Cx   := fun v I' L' => ∃ t cs ok, v = .tuple #[.agg cs.toArray, .bool ok] ∧ Rep I' t cs ∧ L = L' ∧
  (match p with
   | some t0 => ok = t0.typed ∧ t = t0
   | none => ok = false)

def LR (s : As ) (p : Option (Tree × As )) (L : Bl ) : Cx   := fun v I' L' => ∃ t cs e, v = .tuple #[.agg cs.toArray, .int .i64 e] ∧ Rep I' t cs ∧ L = L' ∧
  (match p with
   | some (t0, r0) => t = t0 ∧ e = ((s.length - r0.length : Nat) : Int)
   | none => e = -1)
def H9 : Nat → As → Option (Tree × As)
 | 0, _ => none
 | k + 1, s => El k s
theorem Tz {k : Nat} {s : As} {t : Tree} {r : As} (h : H9 k s = some (t, r)) : r <:+ s := by
 cases k with
 | zero => cases h
 | succ k => exact N2 h
theorem Zp {k : Nat} {s : As} {t : Tree} {r : As} (h : H9 k s = some (t, r)) : r.length < s.length := by
 cases k with
 | zero => cases h
 | succ k => exact Sr h
theorem Ub : ∀ (n : Nat) (s : As), Eu (fun _ => none) n s = none
 | 0, _ => rfl
 | n + 1, s => rfl
theorem Uc {k : Nat} {s : As} (h : (s.getD 0 0).toNat = 40) : El k s = (match Eu (H9 k) s.length (s.drop 1) with
  | some (ts, r) => some (.node [] ts, r)
  | none => none) := by
 cases k with
 | zero => rw [Jy h, show H9 0 = fun _ => none from rfl, Ub]
 | succ k => exact Iv h
structure LS where
 I : Heap
 i : Nat
 m : Nat
 ts : List Tree
 B : K8
 c : Nat
 xs : List Value
 n : Nat
def Aeg (k : Nat) (s : As) (i₀ : Nat) (I₀ : Heap) (x : LS) : Prop := HLe I₀ x.I ∧ RepL x.I x.ts x.xs ∧ E0 2 x.m x.c x.xs x.B ∧ x.m = x.ts.length ∧ x.i < s.length ∧ s.length - x.i ≤ x.n ∧ x.m + (s.length - x.i) ≤ s.length ∧
 P8 (H9 k) (El k (s.drop i₀)) ⟨x.I, s.drop x.i, x.m, x.ts, x.B, x.c, x.xs, x.n⟩
theorem Jg (s : As) (i n : Nat) : (s.drop i).getD n 0 = s.getD (i + n) 0 := by simp [List.getD_eq_getElem?_getD, List.getElem?_drop]
theorem Mb {s : As} {p : Option (Tree × As)} {t : Tree} {cs : List Value} {I : Heap} {L : Bl} (hr : Rep I t cs) (hp : p = none) : LR s p L (.tuple #[.agg cs.toArray, .int .i64 (-1)]) I L :=
 ⟨t, cs, -1, rfl, hr, rfl, by rw [hp]⟩

theorem Aaz : ∀ (k : Nat) (s : As) (_ : s.length ≤ 12000) (i : Nat) (_ : i ≤ s.length) (depth : Nat) (_ : depth + k = 61) (I : Heap) (L : Bl),
  Fun Tryz.prog 144 [.string (str s), .int .i64 (i : Nat), .int .i64 (depth : Nat)] I L (LR s (H9 k (s.drop i)) L) := by
 intro k
 induction k with
 | zero =>
  intro s hsl i hi depth hdeep I L; refine Ao Ad ?_; refine Se rfl ?_; refine A5 .free rfl ?_; intro b6; refine Oa rfl (Ab (Se rfl ?_)); refine Cp rfl rfl rfl .free rfl ?_; refine A5 .free rfl ?_; intro b8; refine By rfl rfl rfl rfl .free ?_; refine Ab (Ah (Se rfl (Om rfl (Oc rfl rfl rfl (Om rfl ?_)))))
  first | refine Ady rfl rfl Aa ?_ | refine Adx rfl rfl Aa ?_
  iterate 4 refine Ce rfl rfl rfl ?_
  refine Ot rfl rfl (Ab ?_); refine Br rfl ?_; refine Se rfl ?_; refine Ct rfl .free rfl ?_; refine By rfl rfl rfl rfl .free ?_; refine Oa rfl (Ab ?_); refine Al (.c rfl (.tmp rfl .nil)) ?_
  exact ⟨I, L, .refl _, fun _ h => h.drop.drop, .node [] [], _, -1, rfl, Rep.empty I, rfl, rfl⟩
 | succ k ihk =>
  intro s hsl i hi depth hdeep I L; refine Ao Ad ?_; refine Se rfl ?_; refine A5 .free rfl ?_; intro b6; refine Oa rfl (Ab (Se rfl ?_)); refine Cp rfl rfl rfl .free rfl ?_; refine A5 .free rfl ?_; intro b8; refine By rfl rfl rfl rfl .free ?_; refine Ab (Ah (Se rfl (Om rfl (Oc rfl rfl rfl (Om rfl ?_)))))
  first | refine Adw rfl rfl Aa ?_ | refine Adv rfl rfl Aa ?_
  refine Ow rfl (Ow rfl ?_); refine Cy rfl (.met rfl rfl) rfl ?_; refine Dj rfl rfl rfl (.met rfl rfl) rfl ?_; refine Of rfl rfl (Ab ?_); refine Si rfl ?_ ?_
  ·intro c0; refine Se rfl ?_; refine Ct rfl .free rfl ?_; refine By rfl rfl rfl rfl .free ?_; refine Oa rfl (Ab ?_); refine Al (.c rfl (.tmp rfl .nil)) ?_
   exact ⟨I, L, .refl _, fun _ h => h.drop.drop, Mb (Rep.empty I) (by simp only [H9]; rw [List.drop_eq_nil_of_le Aa]; cases k <;> rfl)⟩
  intro c0; refine Aj (Ah (Se rfl (Om rfl (Om rfl ?_)))); refine Dk rfl rfl rfl Bt .free rfl ?_; refine Oc rfl rfl rfl (Ab ?_); refine Si rfl ?_ ?_
  ·intro c1
   have h40 : ((s.drop i).getD 0 0).toNat ≠ 40 := by rw [Jg]; simp only [Nat.add_zero]; omega
   refine Se rfl (Om rfl (Oa rfl (Ab (Ah (Ar ?_))))); refine Dy (X := Nat) (fun n => s.length - i - n) (fun n => [(0, .string (str s)), (1, .int .i64 ((i + n : Nat))), (6, .pointer (some ⟨b6, 0, none⟩)), (8, .pointer (some ⟨b8, 0, none⟩)), (9, .int .i64 (i : Nat))]) (fun _ => I)
    (fun _ => (b8, .cells [.string (str []), .slice none 0 0].toArray 68 (0, 0)) :: (b6, .cells [.string (str []), .slice none 0 0].toArray 68 (0, 0)) :: L) (fun n => i + n ≤ s.length ∧ ((s.drop i).take n).all E1 = true) 0 ⟨by omega, by simp⟩ ⟨rfl, rfl, rfl, rfl, rfl, trivial⟩ (fun _ h => h) ?_
   rintro n ⟨hn, hall⟩ ih; refine Ah (Se rfl (Om rfl (Om rfl ?_))); refine Cy rfl .free rfl ?_; refine Oc rfl rfl rfl (Om rfl ?_)
   first | refine Gr rfl rfl ?_ ?_ | refine E3 rfl rfl ?_ ?_ | refine Lw rfl rfl ?_ ?_
   ·intro g6_5; refine Ow rfl (Ow rfl ?_); refine Dk rfl rfl rfl Bt (.met rfl rfl) rfl ?_; refine C1 rfl (.met rfl rfl) rfl (Aay _ _ _) ?_; rintro _ _ _ _ ⟨rfl, rfl, rfl⟩; refine Ot rfl rfl (Ab ?_); refine Si rfl ?_ ?_
    ·intro c2; refine Aj (Ar (Am rfl (Om rfl ?_))); refine Or rfl rfl rfl ?_; refine Oa rfl (Ab (Aq ?_)); refine Dl (E' := [(0, .string (str s)), (1, .int .i64 ((i + (n + 1) : Nat))), (6, .pointer (some ⟨b6, 0, none⟩)), (8, .pointer (some ⟨b8, 0, none⟩)), (9, .int .i64 (i : Nat))]) ⟨rfl, rfl, rfl, rfl, rfl, trivial⟩ (ih (n + 1) ⟨by omega, Ka hall (by rw [List.length_drop]; omega) (by rw [Jg]; assumption)⟩ Aa)
    intro c2; refine Cd rfl ?_; refine Ah ?_
    have htw := Lk (n := n) hall (by first | exact .inl (by rw [List.length_drop]; omega) | exact .inr ⟨by rw [List.length_drop]; omega, by rw [Jg]; assumption⟩)
    have hpo := Ho (k := k) h40
    rw [htw.1, htw.2] at hpo
    have hdt : (s.take (i + n)).drop i = (s.drop i).take n := by rw [List.drop_take]; congr 1; omega
    refine Am rfl ?_
    iterate 3 refine Om rfl ?_
    refine Ps rfl rfl rfl i (i + n) rfl rfl Aa .free rfl ?_; rw [hdt]
    first | refine Oh rfl ?_ | refine Oj rfl ?_
    refine By rfl rfl rfl rfl .free ?_; refine Ab (Ah (Se rfl ?_))
    first | refine Oh rfl ?_ | refine Oj rfl ?_
    refine Ct rfl .free rfl ?_; refine Od rfl rfl rfl (Ab ?_); refine Si rfl ?_ ?_
    ·intro c3; refine Se rfl ?_; refine Ct rfl .free rfl ?_; refine By rfl rfl rfl rfl .free ?_; refine Oa rfl (Ab ?_); refine Al (.c rfl (.tmp rfl .nil)) ?_
     exact ⟨I, L, .refl _, fun _ h => h.drop.drop, Mb (.ofAtom Ib) (by simp only [H9]; rw [hpo, if_pos C8])⟩
    intro c3; refine Aj (Se rfl ?_); refine Ct rfl .free rfl ?_; refine Om rfl ?_; refine By rfl rfl rfl rfl .free ?_; refine Oa rfl (Ab ?_); refine Al (.c rfl (.tmp rfl .nil)) ?_; refine ⟨I, L, .refl _, fun _ h => h.drop.drop, .node ((s.drop i).take n) [], _, _, rfl, .ofAtom Ib, rfl, ?_⟩
    simp only [H9]; rw [hpo, if_neg C8]
    refine ⟨rfl, ?_⟩
    simp only [List.length_drop]; omega
   intro g6_5
   iterate 4 refine Ce rfl rfl rfl ?_
   refine Of rfl rfl (Ab ?_); refine At rfl ?_; refine Cd rfl ?_; refine Ah ?_
   have htw := Lk (n := n) hall (by first | exact .inl (by rw [List.length_drop]; omega) | exact .inr ⟨by rw [List.length_drop]; omega, by rw [Jg]; assumption⟩)
   have hpo := Ho (k := k) h40
   rw [htw.1, htw.2] at hpo
   have hdt : (s.take (i + n)).drop i = (s.drop i).take n := by rw [List.drop_take]; congr 1; omega
   refine Am rfl ?_
   iterate 3 refine Om rfl ?_
   refine Ps rfl rfl rfl i (i + n) rfl rfl Aa .free rfl ?_; rw [hdt]
   first | refine Oh rfl ?_ | refine Oj rfl ?_
   refine By rfl rfl rfl rfl .free ?_; refine Ab (Ah (Se rfl ?_))
   first | refine Oh rfl ?_ | refine Oj rfl ?_
   refine Ct rfl .free rfl ?_; refine Od rfl rfl rfl (Ab ?_); refine Si rfl ?_ ?_
   ·intro c3; refine Se rfl ?_; refine Ct rfl .free rfl ?_; refine By rfl rfl rfl rfl .free ?_; refine Oa rfl (Ab ?_); refine Al (.c rfl (.tmp rfl .nil)) ?_
    exact ⟨I, L, .refl _, fun _ h => h.drop.drop, Mb (.ofAtom Ib) (by simp only [H9]; rw [hpo, if_pos C8])⟩
   intro c3; refine Aj (Se rfl ?_); refine Ct rfl .free rfl ?_; refine Om rfl ?_; refine By rfl rfl rfl rfl .free ?_; refine Oa rfl (Ab ?_); refine Al (.c rfl (.tmp rfl .nil)) ?_; refine ⟨I, L, .refl _, fun _ h => h.drop.drop, .node ((s.drop i).take n) [], _, _, rfl, .ofAtom Ib, rfl, ?_⟩
   simp only [H9]; rw [hpo, if_neg C8]
   refine ⟨rfl, ?_⟩
   simp only [List.length_drop]; omega
  intro c1; refine Aj (Ar ?_)
  have hi' : i < s.length := by omega
  refine Dy (X := LS) (fun x => s.length - x.i) (fun x => [(0, .string (str s)), (1, .int .i64 (x.i : Nat)), (2, .int .i64 (depth : Nat)), (6, .pointer (some ⟨b6, 0, none⟩)), (8, .pointer (some ⟨b8, 0, none⟩))]) (fun x => x.I)
   (fun x => (b8, .cells [.string (str []), B6 x.m x.c x.B].toArray 68 (0, 0)) :: (b6, .cells [.string (str []), .slice none 0 0].toArray 68 (0, 0)) :: (Ch 68 x.xs x.B ++ L)) (Aeg k s i I) ⟨I, i, 0, [], none, 0, [], s.length - i⟩
   ⟨.refl _, .nil, ⟨rfl, rfl, rfl⟩, rfl, hi', Nat.le_refl _, by simp, by
    have := Uc (k := k) (s := s.drop i) (by rw [Jg]; simp only [Nat.add_zero]; omega)
    rw [List.length_drop] at this
    unfold P8
    split <;> simp_all⟩ ⟨rfl, rfl, rfl, rfl, rfl, trivial⟩ (fun _ h => h) ?_
  rintro x ⟨hle, hrl, hB, hxm, hxi, hxn, hxt, hlink⟩ ih; refine Ar (Se rfl (Om rfl (Om rfl ?_))); refine Or rfl rfl rfl ?_; refine Om rfl ?_; refine Or rfl rfl rfl ?_; refine Ca rfl (ihk s hsl (x.i + 1) Aa (depth + 1) Aa _ _) ?_; rintro _ J _ hleJ ⟨t, cs, e, rfl, hrep, rfl, hpf⟩; obtain ⟨oa, cc, vs, rfl, -⟩ := hrep.open
  have hdd : (s.drop x.i).drop 1 = s.drop (x.i + 1) := by rw [List.drop_drop]
  obtain ⟨je, hje⟩ : ∃ je : Nat, e = je ∨ e = -1 := by
   cases hp : H9 k (s.drop (x.i + 1)) with
   | none => rw [hp] at hpf; exact ⟨0, .inr hpf⟩
   | some p => rw [hp] at hpf; exact ⟨_, .inl hpf.2⟩
  refine Om rfl (Oe rfl rfl (Oe rfl rfl ?_)); refine A5 .free rfl ?_; intro b10; refine By rfl rfl rfl rfl .free ?_; refine Oa rfl (Ab (Ah (Se rfl (Om rfl (Oc rfl rfl rfl (Om rfl ?_))))))
  first | refine Gr rfl rfl ?_ ?_ | refine E3 rfl rfl ?_ ?_ | refine Lw rfl rfl ?_ ?_
  ·intro g13_3
   iterate 4 refine Ce rfl rfl rfl ?_
   refine Ot rfl rfl (Ab ?_); refine Br rfl ?_; refine Ah ?_; refine Cq (fun w h => h.u3) (Pu (a := []) (hrl.mono hleJ) hB hxm Cw Cv ?_); intro J2 hle2 hrep2; refine Am rfl ?_; refine Ct rfl .free rfl ?_; refine By rfl rfl rfl rfl .free ?_; refine Oa rfl (Ab ?_); refine Al (.c rfl (.tmp rfl .nil)) ?_
   have hf : El k (s.drop i) = none := by
    refine Ji hlink D1 ?_
    simp only [hdd]
    cases hp : H9 k (s.drop (x.i + 1)) with
    | none => exact .inl rfl
    | some p =>
     obtain ⟨t0, r0⟩ := p; rw [hp] at hpf; refine .inr ⟨t0, r0, rfl, .inl ?_⟩
     have h2 := hpf.2
     apply List.eq_nil_of_length_eq_zero
     omega
   exact ⟨J2, L, (hle.trans hleJ).trans hle2, fun _ h => h.drop.drop.drop, Mb hrep2 hf⟩
  intro g13_3; refine Ow rfl (Ow rfl ?_); refine Cy rfl (.met rfl rfl) rfl ?_; refine Dj rfl rfl rfl (.met rfl rfl) rfl ?_; refine Of rfl rfl (Ab ?_); refine Si rfl ?_ ?_
  ·intro c4; refine Ah ?_; refine Cq (fun w h => h.u3) (Pu (a := []) (hrl.mono hleJ) hB hxm Cw Cv ?_); intro J2 hle2 hrep2; refine Am rfl ?_; refine Ct rfl .free rfl ?_; refine By rfl rfl rfl rfl .free ?_; refine Oa rfl (Ab ?_); refine Al (.c rfl (.tmp rfl .nil)) ?_
   have hf : El k (s.drop i) = none := by
    refine Ji hlink D1 ?_
    simp only [hdd]
    cases hp : H9 k (s.drop (x.i + 1)) with
    | none => exact .inl rfl
    | some p =>
     obtain ⟨t0, r0⟩ := p; rw [hp] at hpf; refine .inr ⟨t0, r0, rfl, .inl ?_⟩
     have h2 := hpf.2
     apply List.eq_nil_of_length_eq_zero
     omega
   exact ⟨J2, L, (hle.trans hleJ).trans hle2, fun _ h => h.drop.drop.drop, Mb hrep2 hf⟩
  intro c4; refine Aj (Ah ?_); obtain rfl : e = je := by omega
  obtain ⟨r, hpf', hre, hrne⟩ : ∃ r, H9 k (s.drop (x.i + 1)) = some (t, r) ∧ r = s.drop je ∧ r ≠ [] := by
   cases hp : H9 k (s.drop (x.i + 1)) with
   | none => rw [hp] at hpf; omega
   | some p =>
    obtain ⟨t0, r0⟩ := p; rw [hp] at hpf; obtain ⟨rfl, h2⟩ := hpf
    have hsf := Tz hp
    have h3 := Wm (hsf.trans (List.drop_suffix _ _))
    have h4 := hsf.length_le
    rw [List.length_drop] at h4
    have h5 : je = s.length - r0.length := by omega
    refine ⟨r0, rfl, by rw [h5]; exact h3, ?_⟩; intro e; subst e; simp at h5; omega
  have hrl0 : r.length = s.length - je := by rw [hre]; simp
  have hrpos := List.length_pos_iff.2 hrne
  have hrlt : x.i + 1 < je := by have := Zp hpf'; rw [List.length_drop] at this; omega
  refine Am rfl ?_
  first | refine Oh rfl ?_ | refine Oj rfl ?_
  refine Ct rfl .free rfl ?_; refine Ct rfl .free rfl ?_; refine Ol rfl rfl ?_; intro b71; refine D7 (B := x.B) (xs := x.xs) (ys := [.string (str t.atom), .slice oa t.parts.length cc]) (m := x.m) (c := x.c) Bk Ae rfl rfl hB (fun _ h => h.u4) Ae (fun a ha => by cases ha; exact Cc (.head _) Ae) Ad Ae Ac Ac Aa Ac .free rfl ?_; intro bb sp c' hB'
  first | refine Oh rfl ?_ | refine Oj rfl ?_
  refine By rfl rfl rfl rfl .free ?_
  have hrl' : RepL J (x.ts ++ [t]) (x.xs ++ [Value.string (str t.atom), Value.slice oa t.parts.length cc]) := (hrl.mono hleJ).append (.cons hrep .nil)
  have hlen' : x.m + 1 = (x.ts ++ [t]).length := by simp [hxm]
  have hhd : r.getD 0 0 = s.getD je 0 := by rw [hre, Jg]; rfl
  refine Ab (Se rfl (Om rfl (Oa rfl (Ab (Ah (Se rfl (Om rfl (Om rfl ?_)))))))); refine Dk rfl rfl rfl Aa .free rfl ?_; refine Oc rfl rfl rfl (Ab ?_); refine Si rfl ?_ ?_
  ·intro c5; refine Ah ?_; refine Bo ?_; intro hfz; refine Am rfl ?_; refine Ct rfl .free rfl ?_; refine Om rfl ?_; refine Or rfl rfl rfl ?_; refine By rfl rfl rfl rfl .free ?_; refine Oa rfl (Ab ?_); refine Al (.c rfl (.tmp rfl .nil)) ?_; refine ⟨_, L, (hle.trans hleJ).trans hfz, fun _ h => h.drop.drop.drop.drop, .node [] (x.ts ++ [t]), _, _, rfl, .mk' hlen' (hrl'.mono hfz) (fun y hy => by cases hy; exact Ba) Ad hB'.2.1 Cw Cv, rfl, ?_⟩
   simp only [H9]
   rw [O2 hlink D1 (by simp only [hdd]; exact hpf') hrne (by rw [hhd]; omega)]; refine ⟨rfl, ?_⟩
   simp only [List.length_drop]; omega
  intro c5; refine Aj (Se rfl (Om rfl (Om rfl ?_))); refine Dk rfl rfl rfl Aa .free rfl ?_; refine Oc rfl rfl rfl (Ab ?_); refine Si rfl ?_ ?_
  ·intro c6; refine Ah ?_; refine Bo ?_; intro hfz; refine Am rfl ?_; refine Ct rfl .free rfl ?_; refine By rfl rfl rfl rfl .free ?_; refine Oa rfl (Ab ?_); refine Al (.c rfl (.tmp rfl .nil)) ?_
   have hf : El k (s.drop i) = none := by
    refine Ji hlink D1 (.inr ⟨t, r, by simp only [hdd]; exact hpf', .inr ⟨by rw [hhd]; omega, by rw [hhd]; omega⟩⟩)
   exact ⟨_, L, (hle.trans hleJ).trans hfz, fun _ h => h.drop.drop.drop.drop, Mb (t := .node [] (x.ts ++ [t])) (.mk' hlen' (hrl'.mono hfz) (fun y hy => by cases hy; exact Ba) Ad hB'.2.1 Cw Cv) hf⟩
  intro c6; refine Aj (Aq ?_); refine Cq (fun w h => Mem.sub (L' := (b8, _) :: (b6, _) :: (bb, _) :: L) Bf h.f4.f4) (Dl ?_ (ih ⟨J, je, x.m + 1, x.ts ++ [t], some (bb, sp), c', _, x.n - 1⟩ ⟨hle.trans hleJ, hrl', hB', hlen', by simp only; omega, by simp only; omega, by simp only; omega, ?_⟩ D1))
  ·exact ⟨rfl, rfl, rfl, rfl, rfl, trivial⟩
  ·have := O3 (I := J) (B := some (bb, sp)) (c := c') (m' := x.m + 1) (xs := x.xs ++ [Value.string (str t.atom), Value.slice oa t.parts.length cc]) hlink D1 (by simp only [hdd]; exact hpf') hrne (by rw [hhd]; omega) (by rw [hhd]; omega)
   rw [hre] at this
   exact this

def Kr : Nat := 9223372036854775807
theorem O4 {n : Nat} (h : n ≤ Bd) : n ≤ Kr := by unfold Bd at h; unfold Kr; omega
theorem Hl (s : As) (hs : s.length ≤ Kr) (I : Heap) (L : Bl) : Fun Tryz.prog 94 [.string (str s)] I L (RD (Df s) L) := by
 unfold Kr at hs
 refine Ao Ad ?_; refine Se rfl ?_; refine A5 .free rfl ?_; intro b2; refine Oa rfl (Ab (Ah (Se rfl (Om rfl ?_)))); refine Cy rfl .free rfl ?_; refine Oc rfl rfl rfl (Ab ?_); refine Si rfl ?_ ?_
 ·intro c0; refine Se rfl ?_; refine Cp rfl rfl rfl .free rfl ?_; refine By rfl rfl rfl rfl .free ?_; refine Oa rfl (Ab ?_); refine Al (.c rfl (.tmp rfl .nil)) ?_
  exact ⟨I, L, .refl _, fun _ h => h.drop, .node [] [], _, false, rfl, Rep.empty I, rfl, by rw [Df, if_pos Aa]⟩
 intro c0; refine Aj (Se rfl (Om rfl ?_)); refine Ca rfl (Aaz 61 s Aa 0 Aa 0 rfl _ _) ?_; rintro _ J _ hleJ ⟨t, cs, e, rfl, hrep, rfl, hpf⟩; obtain ⟨oa, cc, vs, rfl, -⟩ := hrep.open; refine Om rfl (Oe rfl rfl (Oe rfl rfl ?_)); refine A5 .free rfl ?_; intro b4; refine By rfl rfl rfl rfl .free ?_; refine Oa rfl (Ab (Se rfl ?_)); refine Ct rfl .free rfl ?_; refine Om rfl (Om rfl ?_); refine Cy rfl .free rfl ?_; refine Oc rfl rfl rfl ?_; refine By rfl rfl rfl rfl .free ?_; refine Oa rfl (Ab ?_); refine Al (.c rfl (.tmp rfl .nil)) ?_
 refine ⟨J, L, hleJ, fun _ h => h.drop.drop, t, _, _, rfl, hrep, rfl, ?_⟩; rw [Df, if_neg Aa]
 simp only [H9, List.drop_zero] at hpf
 cases hp : El 60 s with
 | none =>
  rw [hp] at hpf
  simp only at hpf ⊢
  exact decide_eq_false Aa
 | some p =>
  obtain ⟨t0, r0⟩ := p
  have hsf := (N2 hp).length_le
  have hlt := Sr hp
  rw [hp] at hpf; obtain ⟨rfl, rfl⟩ := hpf
  cases r0 with
  | nil => exact ⟨decide_eq_true Ad, rfl⟩
  | cons c r0 =>
   simp only [List.length_cons] at hlt hsf ⊢
   exact decide_eq_false Aa
theorem Sg (s : As) (hs : s.length ≤ Bd) (I : Heap) (L : Bl) : Fun Tryz.prog 94 [.string (str s)] I L (RD (Df s) L) := Hl s (O4 hs) I L
def I5 (s : As) : Option Tree := match Df s with
 | some t => bif t.typed then some t else none
 | none => none
section rules
variable {P : Program} {f : FuncId} {n : Nat} {I₀ : Heap} {Q : Cx} {k : List Item} {E : Hi} {I : Heap} {L : Bl}
variable {ops : Array Oper} {d : Nat} {ty : TypeId} {pos : String} {af : Array Edge} {g : Option (Nat × Bool)} {l : List Oper}

theorem Kk {c : Code} {rs : List ResultVar} {vs : List Value} {m : Nat} [hf : Bm P f c m rs] (hr : RetOk P E I L rs vs)
  (hp : ∃ I' L', HLe I₀ I' ∧ (∀ w, Mem I L w → Mem I' L' w) ∧ Q (C6 vs) I' L') : RunS P f n I₀ Q [] E I L := by
 obtain ⟨fn, hfn, _, _, hrs, _⟩ := hf.get; intro a w ha hd he hm cs; obtain ⟨I', L', hle, hmm, hq⟩ := hp; refine ⟨.returned (C6 vs), w, _, ⟨_, I', L', rfl, hle, hmm w hm, hq⟩, .one step_end, rfl, rfl, hd, rfl, fn, hfn, ?_⟩
 have h1 := Ab2 hr he hm
 have h2 : (fn.results.mapM (fun | .tmp t => pure (a.tmps.getD t undef) | .cell b t => do loadVar t (← asAddr (a.tmps.getD b undef)) : ResultVar → Sem Value)).run P w = .ok vs.toArray w := by
  rw [hrs, List.mapM_toArray]
  exact Ag h1
 unfold results
 rw [show ((base f).at a []).tmps = a.tmps from rfl]; refine Eq.trans (Ag h2) ?_
 cases vs with
 | nil => rfl
 | cons v vs =>
  cases vs with
  | nil => rfl
  | cons u us => simp [C6, Gg]

theorem Dp {S : World → Prop} {x : Operand} {a : Addr} (hx : B8 E x = some (.pointer (some a))) : Hj P E S ⟨some d, .nilCheck x, ty, pos, af, g⟩ (.pointer (some a)) := fun ac w he _ => by
 simp only [execOp, he.eval hx]; rfl
theorem Au {x : Operand} {a : Addr} (hx : B8 E x = some (.pointer (some a))) (hg : Wants ops E g) (hdn : Nat.blt d n = true) (h : A3 P f n I₀ Q ops l k ((d, .pointer (some a)) :: E) I L) :
  A3 P f n I₀ Q ops (⟨some d, .nilCheck x, ty, pos, af, g⟩ :: l) k E I L := D8 (Dp hx) hg hdn h

theorem Hh {op : BinOp} {T : TypeId} {x y : Operand} {a b : Option Addr} (w : World) : (eqGuard op T x y (.pointer a) (.pointer b)).run P w = .ok () w := by
 unfold eqGuard; split <;> rfl
theorem Ab9 {S : World → Prop} {T T' e sz bb : Nat} {z : List Value} [ht : Av P T (.pointer e) sz bb z] {x y : Operand} {oa : Option Addr} (hx : B8 E x = some (.pointer oa)) (hy : B8 E y = some (.pointer none)) :
  Hj P E S ⟨some d, .binOp .eql T x y T', ty, pos, af, g⟩ (.bool oa.isNone) := fun ac w he _ => by
 simp only [execOp, he.eval hx, he.eval hy]
 refine Ag (a := _) (w' := w) ?_ |>.trans rfl
 rw [Ag (Hh w)]
 have h : ∀ d : Nat, (Op.equalIn (d + 1) T (.pointer oa) (.pointer none)).run P w = .ok oa.isNone w := fun d => by
  unfold Op.equalIn
  rw [Ag (A6 ht.und w)]
  cases oa <;> rfl
 simp only [binOp, Op.equal]
 exact Ag (h 9999) |>.trans rfl
theorem V6 {T T' e sz bb : Nat} {z : List Value} [ht : Av P T (.pointer e) sz bb z] {x y : Operand} {oa : Option Addr} (hx : B8 E x = some (.pointer oa)) (hy : B8 E y = some (.pointer none)) (hg : Wants ops E g) (hdn : Nat.blt d n = true)
  (h : A3 P f n I₀ Q ops l k ((d, .bool oa.isNone) :: E) I L) : A3 P f n I₀ Q ops (⟨some d, .binOp .eql T x y T', ty, pos, af, g⟩ :: l) k E I L := D8 (Ab9 hx hy) hg hdn h
theorem Zu {T T' e sz bb esz ebb : Nat} {z ez : List Value} {dd : TypeDesc} [ht : Av P T (.pointer e) sz bb z] [hte : Av P e dd esz ebb ez] {x y : Operand} {a : Addr} (hx : B8 E x = some (.pointer (some a))) (hy : B8 E y = some (.pointer (some a))) (hg : Wants ops E g) (hdn : Nat.blt d n = true)
  (h : A3 P f n I₀ Q ops l k ((d, .bool false) :: E) I L) : A3 P f n I₀ Q ops (⟨some d, .binOp .neq T x y T', ty, pos, af, g⟩ :: l) k E I L :=
 Abu (fun ac w he => by
  simp only [execOp, he.eval hx, he.eval hy]
  refine Ag (a := _) (w' := w) ?_ |>.trans rfl
  rw [Ag (Hh w)]; obtain ⟨i, z, hi, _⟩ := hte.info
  exact Lib.run_neq_ptr_same w a ht.und hi) hg hdn h

theorem Pe {b : Nat} {c : Array Value} {T : TypeId} {fr : Nat × Nat} {w : World} (hm : (b, Obj.cells c T fr) ∈ L) (hw : Mem I L w) : w.shape? b = some (T, c.size) := by
 simp [World.shape?, (hw.2.1 _ hm).1]
theorem Xt {src dst t sz bb sz2 bb2 tsz tbb : Nat} {z z2 tz : List Value} {dd : TypeDesc} [hs : Av P src (.pointer t) sz bb z] [hd : Av P dst .unsafePointer sz2 bb2 z2] [ht : Av P t dd tsz tbb tz] {x : Operand} {b off : Nat} {cs : List Value} {U : TypeId} {fr : Nat × Nat}
  (hx : B8 E x = some (.pointer (some ⟨b, off, none⟩))) (hm : (b, Obj.cells cs.toArray U fr) ∈ L) (ht0 : tsz ≠ 0) (ho : off < cs.length) (hg : Wants ops E g) (hdn : Nat.blt d n = true)
  (h : A3 P f n I₀ Q ops l k ((d, .pointer (some ⟨b, off, none⟩)) :: E) I L) : A3 P f n I₀ Q ops (⟨some d, .convert src dst x, ty, pos, af, g⟩ :: l) k E I L :=
 D8 (fun ac w he hw => by
  obtain ⟨i, z, hi, hsz, _⟩ := ht.info
  simp only [execOp, he.eval hx]
  exact Ag (Lib.run_to_unsafe w ⟨b, off, none⟩ hs.und hd.und hi (by omega) (Pe hm hw) (by simpa using ho)) |>.trans rfl) hg hdn h
theorem T4 {src dst u sz bb sz2 bb2 usz ubb : Nat} {z z2 uz : List Value} {dd : TypeDesc} [hs : Av P src .unsafePointer sz bb z] [hd : Av P dst (.pointer u) sz2 bb2 z2] [hu : Av P u dd usz ubb uz] {x : Operand} {b off : Nat} {cs : List Value} {U : TypeId} {fr : Nat × Nat}
  (hx : B8 E x = some (.pointer (some ⟨b, off, none⟩))) (hm : (b, Obj.cells cs.toArray U fr) ∈ L) (hl : liesAt P P.depth U (cs.length / P.cellsOf U) off u 1 = true) (hg : Wants ops E g) (hdn : Nat.blt d n = true)
  (h : A3 P f n I₀ Q ops l k ((d, .pointer (some ⟨b, off, none⟩)) :: E) I L) : A3 P f n I₀ Q ops (⟨some d, .convert src dst x, ty, pos, af, g⟩ :: l) k E I L :=
 D8 (fun ac w he hw => by
  obtain ⟨i, z, hi, _⟩ := hu.info
  simp only [execOp, he.eval hx]
  exact Ag (Lib.run_from_unsafe w ⟨b, off, none⟩ hs.und hd.und hi (Pe hm hw) (by simpa using hl)) |>.trans rfl) hg hdn h

theorem Abs {kf : FuncId} {args : Array Operand} {tys : Array TypeId} {vs : List Value} {v : Value} {fn : Func} {e : Array Value → Sem Value} (hf : P.funcs[kf]? = some fn) (hb : fn.body = none) (hne : (fn.name == "runtime.NumGoroutine") = false)
  (h1 : (Extern.findNext fn).isNone = true) (h2 : Extern.find fn = some e) (hv : ∀ w, (e vs.toArray).run P w = .ok v w)
  (ha : H6 E args.toList = some vs) (hg : Wants ops E g) (hdn : Nat.blt d n = true) (h : A3 P f n I₀ Q ops l k ((d, v) :: E) I L) :
  A3 P f n I₀ Q ops (⟨some d, .call ⟨.value (.func kf), args, tys⟩, ty, pos, af, g⟩ :: l) k E I L :=
 Abu (fun a w he => by
  have h3 : args.map a.eval = vs.toArray := Array.ext' (by simpa using he.evals ha)
  simp only [execOp, resolve, h3]
  simp only [Act.eval, Deferred.ofValue, pure_bind, invoke]
  unfold callFunc
  rw [Ag (a := P) (w' := w) rfl]
  have h1' : Extern.findNext fn = none := by simpa using h1
  simp only [hf, hne, hb, Option.isNone_none, if_true, if_false, Bool.false_eq_true, h1', h2]
  rw [Ag (a := ()) (w' := w) rfl]
  have := hv w
  simp only [Array.append_empty, Array.empty_append]
  exact Ag this |>.trans rfl) hg hdn h

theorem L1 {T e T2 : TypeId} {sz bb esz ebb : Nat} {z ez : List Value} {dd dd2 : TypeDesc} (ht : Av P T (.slice e) sz bb z) (hte : Av P e dd esz ebb ez) {base : Option Addr} {m c : Nat} {x : Value} (hu2 : P.underlying T2 = some dd2) (hni : ∀ kk, dd2 ≠ .int kk)
  (hmc : m ≤ c) {w : World} (hxl : (Builtin.lenOf x).run P w = .ok 0 w) (hxf : (Builtin.firstCells esz 0 x).run P w = .ok #[] w) :
  (Builtin.append_ #[T, T2] T #[.slice base m c, x]).run P w = .ok (.slice base m c) w := by
 unfold Builtin.append_
 simp only [List.getElem?_toArray, List.getElem?_cons_zero, List.getElem?_cons_succ]
 rw [Ag (A6 ht.und w)]
 simp only []
 rw [Ag (E8 hte w)]; rw [Ag (A6 hu2 w)]
 have hz : (match dd2 with | .int _ => true | _ => false) = false := by
  cases dd2 <;> first | rfl | exact absurd rfl (hni _)
 simp only [hz, pure_bind, Bool.false_eq_true, if_false, Bool.not_false, if_true]
 rw [Ag hxl]
 simp only [Nat.add_zero, if_pos hmc]
 rw [Ag hxf]
 cases base <;> rfl

def bv (b : UInt8) : Value := .int .u8 (b.toNat : Nat)
theorem N5 {s : List UInt8} {w : World} : (Builtin.firstCells 1 s.length (.string (str s))).run P w = .ok (s.map bv).toArray w := by
 simp only [Builtin.firstCells, Gg]
 congr 1
 apply Array.ext'
 simp [str, ByteArray.data_extract, bv]
theorem Re {s : List UInt8} {w : World} : (Builtin.lenOf (.string (str s))).run P w = .ok s.length w := by
 simp [Builtin.lenOf, Gg, str, ByteArray.size]
theorem Aaj (s : List UInt8) : (s.map bv).all Cn = true := by simp [bv, Cn]

theorem V4 {T T2 e : TypeId} {sz bb ebb sz2 bb2 : Nat} {z ez z2 : List Value} {dd : TypeDesc} [ht : Av P T (.slice e) sz bb z] [hte : Av P e dd 1 ebb ez] [ht2 : Av P T2 .string sz2 bb2 z2]
  {x y : Operand} {B : K8} {xs : List Value} {s : List UInt8} {m c : Nat} {L₀ : Bl} (hez : ez.length = 1)
  (hx : B8 E x = some (B6 m c B)) (hy : B8 E y = some (.string (str s))) (hB : E0 1 m c xs B) (hL : ∀ w, Mem I L w → Mem I (Ch e xs B ++ L₀) w)
  (hsize : (m + s.length) ≤ 4294967296) (hbytes : ebb ≤ 1024) (hg : Wants ops E g) (hdn : Nat.blt d n = true)
  (h : ∀ B' c', E0 1 (m + s.length) c' (xs ++ s.map bv) B' → (s ≠ [] → B' ≠ none) → (s = [] → B' = B) → A3 P f n I₀ Q ops l k ((d, B6 (m + s.length) c' B') :: E) I (Ch e (xs ++ s.map bv) B' ++ L₀)) :
  A3 P f n I₀ Q ops (⟨some d, .call ⟨.builtin .append, #[x, y], #[T, T2]⟩, T, pos, af, g⟩ :: l) k E I L := by
 refine Jd rfl hdn (fun a he => hg.wanted a he) fun a w he hm => ?_
 by_cases hs : s = []
 ·subst hs
  have hv : ∃ base cc, B6 m c B = .slice base m cc ∧ m ≤ cc ∧ cc = c := by
   cases B with
   | none => obtain ⟨h1, h2, h3⟩ := hB; exact ⟨none, 0, by simp [B6, h2], by omega, h3.symm⟩
   | some p => exact ⟨_, c, rfl, hB.2.1, rfl⟩
  obtain ⟨base, cc, hbv, hmc, rfl⟩ := hv
  have := L1 (P := P) (T2 := T2) (base := base) (x := .string (str [])) (w := w) ht hte ht2.und Bk hmc Re N5
  refine ⟨_, w, I, _, ?_, hL w hm, by simpa using h B cc (by simpa using hB) Ad (fun _ => rfl)⟩
  simp only [execOp, resolve, List.map_toArray, List.map, he.eval hx, he.eval hy, pure_bind, invoke, builtin, hbv]
  exact Ag this |>.trans rfl
 ·have hpos := List.length_pos_iff.2 hs
  obtain ⟨w', B', c', hr, hne, hB', hm'⟩ := M9 (x := .string (str s)) (m2 := s.length) (ys := s.map bv) ht hte hez ht2.und Bk hB (hL w hm) Ad (fun _ => Re) (fun w hw => N5) (Aaj s) hpos Ac hsize hbytes; refine ⟨_, w', I, _, ?_, hm', h B' c' hB' (fun _ => hne) (fun hh => absurd hh hs)⟩
  simp only [execOp, resolve, List.map_toArray, List.map, he.eval hx, he.eval hy, pure_bind, invoke, builtin]
  exact Ag hr |>.trans rfl

theorem Mem.frozen {b m : Nat} {o : Obj} {w : World} (h : Mem I ((b, o) :: L) w) : Mem I L (w.freeze ⟨b, 0, none⟩ m) := by
 obtain ⟨h1, h2, h3⟩ := h
 have hb := h2 (b, o) (.head _)
 have hn : b ∉ L.map (·.1) ∧ (L.map (·.1)).Nodup := List.nodup_cons.1 h3
 unfold World.freeze
 split
 ·exact ⟨h1, fun p hp => h2 p (.tail _ hp), hn.2⟩
 ·refine ⟨⟨fun c u hc => ?_, h1.2⟩, fun p hp => ⟨?_, (h2 p (.tail _ hp)).2⟩, hn.2⟩
  ·have hne : b ≠ c := fun e => by subst e; rw [hb.2] at hc; cases hc
   simp only [Array.getElem?_modify, if_neg hne]
   exact h1.1 c u hc
  ·have hne : b ≠ p.1 := fun e => hn.1 (e ▸ List.mem_map.2 ⟨p, hp, rfl⟩)
   simp only [Array.getElem?_modify, if_neg hne]
   exact (h2 p (.tail _ hp)).1


theorem Ww {S : World → Prop} {x : Operand} {a : Addr} {m c : Nat} {tys : Array TypeId} (hx : B8 E x = some (.slice (some a) m c)) (hc : c ≠ 0) :
  Hj P E S ⟨some d, .call ⟨.builtin .unsafeSliceData, #[x], tys⟩, ty, pos, af, g⟩ (.pointer (some a)) := fun ac w he _ => by
 simp only [execOp, resolve, List.map_toArray, List.map, he.eval hx, pure_bind, invoke, builtin]
 exact Ag (Lib.run_unsafeSliceData_row w _ _ _ _ _ hc) |>.trans rfl
theorem Ur {S : World → Prop} {x : Operand} {m c : Nat} {tys : Array TypeId} (hx : B8 E x = some (.slice none m c)) :
  Hj P E S ⟨some d, .call ⟨.builtin .unsafeSliceData, #[x], tys⟩, ty, pos, af, g⟩ (.pointer none) := fun ac w he _ => by
 simp only [execOp, resolve, List.map_toArray, List.map, he.eval hx, pure_bind, invoke, builtin]
 exact Ag (Lib.run_unsafeSliceData_nil w _ _ _ _) |>.trans rfl
theorem Py {S : World → Prop} {x y : Operand} {pt it : TypeId} {oa : Option Addr} (hx : B8 E x = some (.pointer oa)) (hy : B8 E y = some (.int .i64 0)) :
  Hj P E S ⟨some d, .call ⟨.builtin .unsafeString, #[x, y], #[pt, it]⟩, ty, pos, af, g⟩ (.string (str [])) := fun ac w he _ => by
 simp only [execOp, resolve, List.map_toArray, List.map, he.eval hx, he.eval hy, pure_bind, invoke, builtin]
 exact Ag (Lib.run_unsafeString_none w _ _ _ _) |>.trans rfl
theorem Qg {S : World → Prop} {fuel : Nat} {listed listed' : Array Bool} (i : Nat) {x y : Operand} {pt it e sz bb : Nat} {z : List Value} [ht : Av P pt (.pointer e) sz bb z] {b : Nat} {xs : List UInt8} {sp : List Value} {fr : Nat × Nat} {L₀ : Bl}
  (hi : ops[i]? = some ⟨some d, .call ⟨.builtin .unsafeString, #[x, y], #[pt, it]⟩, ty, pos, af, g⟩) (hc : decide (Region.ready .any ops listed = [i]) = true) (hl : listed' = listed.setIfInBounds i true)
  (hx : B8 E x = some (.pointer (some ⟨b, 0, none⟩))) (hy : B8 E y = some (.int .i64 (xs.length : Nat))) (he1 : P.cellsOf e = 1) (h0 : xs ≠ []) (hlen : xs.length ≤ 4294967296)
  (hL : ∀ w, Mem I L w → Mem I ((b, .cells (xs.map bv ++ sp).toArray e fr) :: L₀) w) (hS : E4 ops listed' = true ∨ ∀ w, Mem I L₀ w → S w) (hg : Wants ops E g) (hdn : Nat.blt d n = true)
  (h : Cz P f n I₀ Q ops S fuel listed' k ((d, .string (str xs)) :: E) I L₀) : Cz P f n I₀ Q ops S (fuel + 1) listed k E I L := by
 refine Nn i hi hc hl rfl hdn (fun a he => hg.wanted a he) fun a w he hm => ?_
 have hm' := hL w hm
 have hb := (hm'.2.1 _ (.head _)).1
 refine ⟨_, _, I, L₀, ?_, hm'.frozen (m := xs.length), hS, h⟩
 simp only [execOp, resolve, List.map_toArray, List.map, he.eval hx, he.eval hy, pure_bind, invoke, builtin]
 refine Ag (Lib.run_unsafeString_row w pt it ty e ht.und he1 b _ (Pe (.head _) hm') xs h0 Ad Aa ?_) |>.trans rfl
 intro j c hj; rw [Ni hb]
 have hjl : j < xs.length := by
  rcases Nat.lt_or_ge j xs.length with gg | gg
  ·exact gg
  ·simp [List.getElem?_eq_none gg] at hj
 simp only [Nat.zero_add, List.getElem?_toArray]
 rw [List.getElem?_append_left (by simpa using hjl), List.getElem?_map, hj]
 rfl

theorem Og {m c : Nat} {B : K8} : Fo (B6 m c B) = some [B6 m c B] := by cases B <;> rfl

end rules
theorem Mem.bl1 {I : Heap} {a p : Nat × Obj} {X L : Bl} {w : World} (h : Mem I (a :: p :: (X ++ L)) w) : Mem I (p :: (X ++ a :: L)) w := h.f1.perm (List.Perm.cons _ (List.perm_append_comm_assoc [a] X L))
theorem Mem.br1 {I : Heap} {a p : Nat × Obj} {X L : Bl} {w : World} (h : Mem I (p :: (X ++ a :: L)) w) : Mem I (a :: p :: (X ++ L)) w :=
 (h.perm (List.Perm.cons _ (List.perm_append_comm_assoc [a] X L).symm)).f1
def Z7 (xs : As) (B : K8) (c : Nat) : Prop := E0 1 xs.length c (xs.map bv) B ∧ (B = none ∨ xs ≠ [])
def Ta (b : Nat) (pre : Bool) (xs : As) (B : K8) (c : Nat) (L : Bl) : Bl :=
 (b, .cells [.pointer (bif pre then some ⟨b, 0, none⟩ else none), B6 xs.length c B].toArray 60 (0, 0)) :: (Ch 5 (xs.map bv) B ++ L)

theorem Gm (b : Nat) (pre : Bool) (v2 : Value) (I : Heap) (L : Bl) : Fun Tryz.prog 137 [.pointer (some ⟨b, 0, none⟩)] I
  ((b, .cells [.pointer (bif pre then some ⟨b, 0, none⟩ else none), v2].toArray 60 (0, 0)) :: L)
  (fun v I' L' => v = .tuple #[] ∧ I = I' ∧ L' = (b, .cells [.pointer (some ⟨b, 0, none⟩), v2].toArray 60 (0, 0)) :: L) := by
 cases pre with
 | true =>
  refine Ao Ad ?_; refine Se rfl (Om rfl ?_); refine Au rfl .free rfl ?_
  first | refine Oh rfl ?_ | refine Oj rfl ?_
  refine Ct rfl .free rfl ?_; refine V6 rfl rfl .free rfl ?_; refine Ab ?_
  first | refine Sf rfl Ad ?_ | refine At Ak ?_
  refine Se rfl (Om rfl ?_); refine Au rfl .free rfl ?_
  first | refine Oh rfl ?_ | refine Oj rfl ?_
  refine Ct rfl .free rfl ?_; refine Om rfl ?_; refine Zu rfl rfl .free rfl ?_; refine Ab ?_
  first | refine Sf rfl Ad ?_ | refine At Ak ?_
  refine Aj ?_; refine Kk .nil ?_
  exact ⟨I, _, .refl _, fun _ h => h, rfl, rfl, rfl⟩
 | false =>
  refine Ao Ad ?_; refine Se rfl (Om rfl ?_); refine Au rfl .free rfl ?_
  first | refine Oh rfl ?_ | refine Oj rfl ?_
  refine Ct rfl .free rfl ?_; refine V6 rfl rfl .free rfl ?_; refine Ab ?_
  first | refine St rfl Ad ?_ | refine Br Ak ?_
  refine Am rfl (Om rfl (Om rfl ?_)); refine Xt rfl (.head _) Ac Ad .free rfl ?_; refine Abs (fn := Tryz.f177) (e := Extern.AbiNoEscape.same) Tryz.func177 Af Af Af Af (fun w => Lib.run_noEscape w _) rfl .free rfl ?_; refine T4 rfl (.head _) Af .free rfl ?_; refine Au rfl .free rfl ?_
  first | refine Oh rfl ?_ | refine Oj rfl ?_
  refine By rfl rfl rfl rfl .free ?_; refine Ab ?_; refine Kk .nil ?_
  exact ⟨I, _, .refl _, fun _ h => h, rfl, rfl, rfl⟩

theorem C2 (b : Nat) (pre : Bool) (xs : As) (B : K8) (c : Nat) (s : As) (hB : Z7 xs B c) (hs : xs.length + s.length ≤ Bd) (I : Heap) (L : Bl) :
  Fun Tryz.prog 89 [.pointer (some ⟨b, 0, none⟩), .string (str s)] I (Ta b pre xs B c L)
  (fun v I' L' => v = .tuple #[.int .i64 (s.length : Nat), .nilIface] ∧ I = I' ∧ ∃ B' c', Z7 (xs ++ s) B' c' ∧ L' = Ta b true (xs ++ s) B' c' L) := by
 unfold Bd at hs
 refine Ao Ad ?_; refine Se rfl (Oa rfl (Oa rfl (Ab (Se rfl (Om rfl ?_))))); refine Ca rfl (Gm b pre _ _ _) ?_; rintro _ _ _ _ ⟨rfl, rfl, rfl⟩; refine Ab (Se rfl (Om rfl (Om rfl ?_))); refine Au rfl .free rfl ?_
 first | refine Oh rfl ?_ | refine Oj rfl ?_
 refine Ct rfl .free rfl ?_; refine Om rfl ?_; refine V4 (B := B) (xs := xs.map bv) (s := s) (m := xs.length) (c := c) Ae rfl rfl hB.1 (fun _ h => h.u1) Aa Ac .free rfl ?_; intro B' c' hB' hne hsame; refine Fc (fun w h => h.perm (List.perm_middle (l₁ := Ch _ _ B'))) ?_; refine Au rfl .free rfl ?_
 first | refine Oh rfl ?_ | refine Oj rfl ?_
 refine T9 rfl rfl Og rfl (by first | rfl | (simp only [List.toList_toArray, List.all_cons, List.all_nil, He, Bool.and_true, Bool.true_and] <;> rfl)) (by first | exact u0 | exact u1 | exact u2 | exact u3 | exact u4 | exact u5 | exact u6) Ae .free ?_; refine Ab (Se rfl (Om rfl ?_)); refine Cy rfl .free rfl ?_; refine Oa rfl (Oa rfl (Ab ?_)); refine Al (.tmp rfl (.tmp rfl .nil)) ?_; refine ⟨I, _, .refl _, fun _ h => h, rfl, rfl, B', c', ⟨by simpa using hB', ?_⟩, by simp [Ta]⟩
 by_cases hs0 : s = []
 ·subst hs0; rw [hsame rfl]; simpa using hB.2
 ·exact .inr (by simp [hs0])
theorem Fe (b : Nat) (pre : Bool) (xs : As) (B : K8) (c : Nat) (u : UInt8) (hB : Z7 xs B c) (hs : xs.length + 1 ≤ Bd) (I : Heap) (L : Bl) :
  Fun Tryz.prog 143 [.pointer (some ⟨b, 0, none⟩), .int .u8 (u.toNat : Nat)] I (Ta b pre xs B c L)
  (fun v I' L' => v = .nilIface ∧ I = I' ∧ ∃ B' c', Z7 (xs ++ [u]) B' c' ∧ L' = Ta b true (xs ++ [u]) B' c' L) := by
 unfold Bd at hs
 refine Ao Ad ?_; refine Se rfl (Oa rfl (Ab (Se rfl (Om rfl ?_)))); refine Ca rfl (Gm b pre _ _ _) ?_; rintro _ _ _ _ ⟨rfl, rfl, rfl⟩; refine Ab (Se rfl (Om rfl (Om rfl ?_))); refine Au rfl .free rfl ?_
 first | refine Oh rfl ?_ | refine Oj rfl ?_
 refine Ct rfl .free rfl ?_; refine Om rfl ?_; refine Ol rfl rfl ?_; intro b13; refine D7 (B := B) (xs := xs.map bv) (ys := [bv u]) (m := xs.length) (c := c) Bk Ae rfl rfl hB.1 (fun _ h => h.u2) Ae (fun a ha => by cases ha; exact Cc (.head _) Ae) Ad Ae Ac Ac Aa Ac .free rfl ?_; intro bb sp c' hB'; refine Au rfl .free rfl ?_
 first | refine Oh rfl ?_ | refine Oj rfl ?_
 refine By rfl rfl rfl rfl .free ?_; refine Ab (Se rfl (Oa rfl (Ab (Al (.tmp rfl .nil) ?_)))); refine ⟨I, _, .refl _, fun w h => Mem.sub (L' := (b, _) :: (bb, _) :: L) Bf h.f2, rfl, rfl, some (bb, sp), c', ⟨by simpa using hB', .inr Ad⟩, by simp [Ta, Ch, B6]⟩
theorem Hd (b : Nat) (pre : Bool) (xs : As) (B : K8) (c : Nat) (hB : Z7 xs B c) (hs : xs.length ≤ Bd) (I : Heap) (L : Bl) :
  Fun Tryz.prog 46 [.pointer (some ⟨b, 0, none⟩)] I (Ta b pre xs B c L) (Ed (.string (str xs)) I L) := by
 unfold Bd at hs
 cases B with
 | none =>
  obtain ⟨⟨h1, h2, h3⟩, _⟩ := hB; obtain rfl : xs = [] := by simpa using h1
  refine Ao Ad ?_; refine Se rfl (Oa rfl (Ab (Ah ?_))); refine Fj 12 rfl rfl ?_; refine Da 0 rfl (Ai rfl) ?_; refine Da 1 rfl (Dp rfl) ?_
  first | refine Da 2 rfl (Ap rfl) ?_ | refine Da 2 rfl (Bn rfl) ?_
  refine Dt 3 [12] rfl (Pj rfl) ?_; refine Da 4 rfl (Ur rfl) ?_; refine Da 5 rfl (Ai rfl) ?_; refine Da 6 rfl (Dp rfl) ?_
  first | refine Da 7 rfl (Ap rfl) ?_ | refine Da 7 rfl (Bn rfl) ?_
  refine Dt 8 [12] rfl (Pj rfl) ?_; refine Da 9 rfl (F6 rfl) ?_; refine Da 10 rfl (Py rfl rfl) ?_; refine Da 11 rfl (A2 rfl) ?_; refine Bg Af ?_; refine Al (.tmp rfl .nil) ?_; refine only rfl ?_
  simp [C6, *]
 | some p =>
  obtain ⟨bb, sp⟩ := p
  have hne : xs ≠ [] := by rcases hB.2 with h | h <;> simp_all
  have hpos := List.length_pos_iff.2 hne
  have hc := hB.1.2.1
  refine Ao Ad ?_; refine Se rfl (Oa rfl (Ab (Ah ?_)))
  simp only [Ta, Ch, List.cons_append, List.nil_append]
  refine Tg I ((b, .cells [.pointer (bif pre then some ⟨b, 0, none⟩ else none), B6 xs.length c (some (bb, sp))].toArray 60 (0, 0)) :: L) 12 rfl rfl ?_; refine Da 0 rfl (Ai rfl) ?_; refine Da 1 rfl (Dp rfl) ?_
  first | refine Da 2 rfl (Ap rfl) ?_ | refine Da 2 rfl (Bn rfl) ?_
  refine Dt 3 [12] rfl (Pj rfl) ?_; refine Da 4 rfl (Ww rfl Aa) ?_; refine Da 5 rfl (Ai rfl) ?_; refine Da 6 rfl (Dp rfl) ?_
  first | refine Da 7 rfl (Ap rfl) ?_ | refine Da 7 rfl (Bn rfl) ?_
  refine Dt 8 [12] rfl (Pj rfl) ?_; refine Da 9 rfl (F6 rfl) ?_; refine Qg 10 rfl Af rfl rfl rfl Af hne Aa (fun _ h => h.f1) (.inr Bb) .free rfl ?_; refine Da 11 rfl (A2 rfl) ?_; refine Bg Af ?_; refine Al (.tmp rfl .nil) ?_; refine only rfl ?_
  simp [C6, *]
structure WS where
 i : Nat
 pre : Bool
 B : K8
 c : Nat
theorem Sp (ps : List Tree) (i : Nat) : (G8 (ps.take i)).length ≤ (G8 ps).length := by
 rcases Nat.le_total ps.length i with h | h
 ·rw [List.take_of_length_le h]; exact Nat.le_refl _
 ·cases ps with
  | nil => simp
  | cons t ts =>
   cases i with
   | zero => simp [G8]
   | succ i =>
    have := Lm (ts.take i) (ts.drop i)
    rw [List.take_append_drop] at this
    simp [G8, this]
theorem Tq : ∀ (n : Nat) {I : Heap} {t : Tree} {cs : List Value} (_ : SizeOf.sizeOf t < n) (_ : Rep I t cs) (b : Nat) (pre : Bool) (xs : As) (B : K8) (c : Nat) (_ : Z7 xs B c) (_ : xs.length + t.text.length ≤ Bd) (L : Bl),
  Fun Tryz.prog 93 [.agg cs.toArray, .pointer (some ⟨b, 0, none⟩)] I (Ta b pre xs B c L)
  (fun v I' L' => v = .tuple #[] ∧ I = I' ∧ ∃ B' c', Z7 (xs ++ t.text) B' c' ∧ L' = Ta b true (xs ++ t.text) B' c' L) := by
 intro n
 induction n with
 | zero => intro I t cs h; omega
 | succ n ihn =>
  intro I t cs hlt h b pre xs B c hB hz L; obtain ⟨oa, cc, vs, rfl, hl, hs, hn, hc, ha, hp⟩ := h.open
  unfold Bd at hp
  refine Ao Ad ?_; refine Se rfl ?_; refine Cg rfl rfl .free rfl ?_; intro b2; refine Ab (Ah (Se rfl ?_)); refine Ct rfl .free rfl ?_; refine Ca rfl (Cs h _) ?_; rintro _ _ _ _ ⟨rfl, rfl, rfl⟩; refine Ab ?_; refine Si rfl ?_ ?_
  ·intro c0
   have hta := t.text_atom Ev
   refine Se rfl (Om rfl ?_)
   first | refine Oh rfl ?_ | refine Oj rfl ?_
   refine Ct rfl .free rfl ?_; refine Fc (fun w h => Mem.bl1 h) ?_; refine Ca rfl (C2 b pre xs B c t.atom hB (by rw [← hta]; exact hz) _ _) ?_; rintro _ _ _ _ ⟨rfl, rfl, B1, c1, hB1, rfl⟩; refine Ab ?_; refine Al .nil ?_
   exact ⟨I, _, .refl _, fun w h => (Mem.br1 h).drop, rfl, rfl, B1, c1, by rw [hta]; exact hB1, by rw [hta]; rfl⟩
  intro c0
  have hne : t.parts ≠ [] := by simpa using c0
  have htx := t.text_eq hne
  have hz' := hz
  rw [htx] at hz'
  simp only [List.length_append, List.length_cons, List.length_nil] at hz'
  refine Aj (Ah (Se rfl ?_))
  first | refine Oh rfl ?_ | refine Oj rfl ?_
  refine Ct rfl .free rfl ?_; refine On rfl (Om rfl (Ab (Ar ?_))); refine Dy (X := WS) (fun x => t.parts.length - x.i) (fun x => [(1, .pointer (some ⟨b, 0, none⟩)), (13, .slice oa t.parts.length cc), (14, .int .i64 (t.parts.length : Nat)), (15, .int .i64 (x.i : Nat))]) (fun _ => I) (fun x => Ta b x.pre (xs ++ G8 (t.parts.take x.i)) x.B x.c L)
   (fun x => x.i ≤ t.parts.length ∧ Z7 (xs ++ G8 (t.parts.take x.i)) x.B x.c ∧ (x.i = t.parts.length → x.pre = true)) ⟨0, pre, B, c⟩ ⟨by simp, by simpa [G8] using hB, fun hh => by simp only at hh; exact absurd (List.length_eq_zero_iff.1 hh.symm) hne⟩ ⟨rfl, rfl, rfl, rfl, trivial⟩ (fun w hh => by simpa [G8] using hh.drop) ?_
  rintro x ⟨hi, hxB, hxp⟩ ih; refine Se rfl (Oc rfl rfl rfl (Ab (Ah ?_))); refine Si rfl ?_ ?_
  ·intro c1; obtain ⟨x', hx, oa', c', hr, hst⟩ := Rep.at hl hs hn x.i Aa
   have htk := Q6 t.parts x.i Aa
   have hlk := Sp t.parts (x.i + 1)
   rw [htk] at hlk
   simp only [List.length_append, List.length_cons] at hlk
   refine Aj (Ah (Ar (Se rfl (Om rfl ?_)))); refine Cm rfl rfl _ rfl Bt Dg .free rfl ?_; refine Ct rfl .free rfl ?_; refine A5 .free rfl ?_; intro b5; refine Oa rfl ?_; refine By rfl rfl rfl rfl .free ?_; refine Ab (Ah (Se rfl (Om rfl (Oc rfl rfl rfl (Ab ?_))))); refine Si rfl ?_ ?_
   ·intro c2; refine Am rfl (Om rfl ?_); refine Fc (fun w h => Mem.bl1 h) ?_; refine Ca rfl (Fe b x.pre _ x.B x.c 40 hxB (by rw [List.length_append]; unfold Bd at *; omega) _ _) ?_; rintro _ _ _ _ ⟨rfl, rfl, B1, c1, hB1, rfl⟩
    have e : xs ++ G8 (t.parts.take (x.i + 1)) = xs ++ G8 (t.parts.take x.i) ++ [40] ++ t.parts[x.i].text := by rw [htk, if_pos Aa]; simp
    refine Fc (fun w h => Mem.br1 h) ?_; refine Ab (Am rfl ?_); refine Ct rfl .free rfl ?_; refine Om rfl ?_; refine Fc (fun w h => Mem.bl1 h) ?_; refine Ca rfl (ihn (by have := t.part_lt x.i Aa; omega) hr b true _ B1 c1 hB1 (by simp only [List.length_append, List.length_cons, List.length_nil]; unfold Bd at *; omega) _) ?_; rintro _ _ _ _ ⟨rfl, rfl, B2, c2', hB2, rfl⟩; refine Fc (fun w h => (Mem.br1 h).drop) ?_; refine Ab (Aq (Am rfl ?_)); refine Or rfl rfl rfl ?_; refine Om rfl (Ab ?_)
    refine Cq (fun w hh => ?_) (Dl (E' := [(1, .pointer (some ⟨b, 0, none⟩)), (13, .slice oa t.parts.length cc), (14, .int .i64 (t.parts.length : Nat)), (15, .int .i64 ((x.i + 1 : Nat)))]) ⟨rfl, rfl, rfl, rfl, trivial⟩ (ih ⟨x.i + 1, true, B2, c2'⟩ ⟨by simp only; omega, by simp only; rw [e]; exact hB2, fun _ => rfl⟩ D1))
    simp only; rw [e]; exact hh
   intro c2; refine Am rfl (Om rfl ?_); refine Fc (fun w h => Mem.bl1 h) ?_; refine Ca rfl (Fe b x.pre _ x.B x.c 32 hxB (by rw [List.length_append]; unfold Bd at *; omega) _ _) ?_; rintro _ _ _ _ ⟨rfl, rfl, B1, c1, hB1, rfl⟩
   have e : xs ++ G8 (t.parts.take (x.i + 1)) = xs ++ G8 (t.parts.take x.i) ++ [32] ++ t.parts[x.i].text := by rw [htk, if_neg Aa]; simp
   refine Fc (fun w h => Mem.br1 h) ?_; refine Ab (Am rfl ?_); refine Ct rfl .free rfl ?_; refine Om rfl ?_; refine Fc (fun w h => Mem.bl1 h) ?_; refine Ca rfl (ihn (by have := t.part_lt x.i Aa; omega) hr b true _ B1 c1 hB1 (by simp only [List.length_append, List.length_cons, List.length_nil]; unfold Bd at *; omega) _) ?_; rintro _ _ _ _ ⟨rfl, rfl, B2, c2', hB2, rfl⟩; refine Fc (fun w h => (Mem.br1 h).drop) ?_; refine Ab (Aq (Am rfl ?_)); refine Or rfl rfl rfl ?_; refine Om rfl (Ab ?_)
   refine Cq (fun w hh => ?_) (Dl (E' := [(1, .pointer (some ⟨b, 0, none⟩)), (13, .slice oa t.parts.length cc), (14, .int .i64 (t.parts.length : Nat)), (15, .int .i64 ((x.i + 1 : Nat)))]) ⟨rfl, rfl, rfl, rfl, trivial⟩ (ih ⟨x.i + 1, true, B2, c2'⟩ ⟨by simp only; omega, by simp only; rw [e]; exact hB2, fun _ => rfl⟩ D1))
   simp only; rw [e]; exact hh
  intro c1
  have hxi : x.i = t.parts.length := by omega
  rw [hxi, List.take_length] at hxB; refine Cd rfl ?_; rw [hxi, List.take_length]; refine Am rfl (Om rfl ?_); refine Ca rfl (Fe b x.pre _ x.B x.c 41 hxB (by rw [List.length_append]; unfold Bd at *; omega) _ _) ?_; rintro _ _ _ _ ⟨rfl, rfl, B1, c1, hB1, rfl⟩; refine Ab ?_; refine Kk .nil ?_; refine ⟨I, _, .refl _, fun w h => h, rfl, rfl, B1, c1, ?_, ?_⟩
  ·rw [htx, ← List.append_assoc]; exact hB1
  ·rw [htx, ← List.append_assoc]

theorem Vg {I : Heap} {t : Tree} {cs : List Value} (h : Rep I t cs) (hz : t.text.length ≤ Bd) (L : Bl) : Fun Tryz.prog 49 [.agg cs.toArray] I L (Ed (.string (str t.text)) I L) := by
 obtain ⟨oa, c, vs, rfl, hl, hs, hn, hc, ha, hp⟩ := h.open; refine Ao Ad ?_; refine Se rfl ?_; refine Cg rfl rfl .free rfl ?_; intro b1; refine Oa rfl (Ab (Se rfl ?_)); refine A5 .free rfl ?_; intro b3; refine Ab (Se rfl ?_); refine Ct rfl .free rfl ?_; refine Fc (fun w hh => Mem.f1 hh) ?_; refine Fc (L' := Ta b3 false [] none 0 _) (fun w hh => Mem.f1 hh) ?_; refine Ca rfl (Tq _ (Nat.lt_succ_self _) h b3 false [] none 0 ⟨⟨rfl, rfl, rfl⟩, .inl rfl⟩ (by simpa using hz) _) ?_; rintro _ _ _ _ ⟨rfl, rfl, B1, c1, hB1, rfl⟩; refine Ab (Se rfl ?_)
 refine Ca rfl (Hd b3 true _ B1 c1 hB1 (by simpa using hz) _ _) ?_; rintro _ _ _ _ ⟨rfl, rfl, rfl⟩; refine Oa rfl (Ab (Al (.tmp rfl .nil) ?_)); refine only rfl ?_
 simp [C6, *]
def sv (s : As) : Value := .string (str s)
structure Strs (I : Heap) (oa : Option Addr) (l : List As) (c : Nat) : Prop where
 still : ∀ x, oa = some x → Still I x (l.map sv)
 nil : oa = none → l = []
 cap : l.length ≤ c
 len : l.length ≤ Bd
 each : ∀ s ∈ l, s.length ≤ Bd
theorem Strs.mono {I I' : Heap} {oa : Option Addr} {l : List As} {c : Nat} (hle : HLe I I') (h : Strs I oa l c) : Strs I' oa l c :=
 ⟨fun x hx => (h.still x hx).mono hle, h.nil, h.cap, h.len, h.each⟩
theorem Strs.at {I : Heap} {oa : Option Addr} {l : List As} {c : Nat} (h : Strs I oa l c) (i : Nat) (hi : i < l.length) : ∃ x, oa = some x ∧ Still I (x.add (i * 1)) [.string (str l[i])] := by
 cases oa with
 | none => have := h.nil rfl; subst this; simp at hi
 | some x =>
  refine ⟨x, rfl, (h.still x rfl).part (i * 1) ?_⟩; intro j hj; obtain rfl : j = 0 := by simpa using hj
  simp [hi, sv]

def Ft (l : List As) (s : As) : Nat → Option Nat
 | 0 => none
 | n + 1 => if l.getD n [] = s then some n else Ft l s n
def Bw (l : List As) (s : As) : Option Nat := Ft l s l.length
theorem K4 {l : List As} {s : As} : ∀ {n i : Nat}, Ft l s n = some i → i < n ∧ l.getD i [] = s := by
 intro n
 induction n with
 | zero => intro i h; simp [Ft] at h
 | succ n ih =>
  intro i h
  simp only [Ft] at h
  split at h
  ·simp at h; subst h; exact ⟨by omega, by assumption⟩
  ·have := ih h; exact ⟨by omega, this.2⟩
def Xh : Option Nat → Int
 | some i => i
 | none => -1

theorem Vj {I : Heap} {oa : Option Addr} {l : List As} {c : Nat} (h : Strs I oa l c) (s : As) (L : Bl) : Fun Tryz.prog 130 [.slice oa l.length c, .string (str s)] I L (Ed (.int .i64 (Xh (Bw l s))) I L) := by
 have hlen := h.len
 unfold Bd at hlen
 refine Ao Ad ?_; refine Se rfl (Oa rfl (Ab (Ah (Se rfl (Om rfl (On rfl ?_)))))); refine Or rfl rfl rfl ?_; refine Oa rfl (Ab (Ar ?_)); refine Dy (X := Nat) (fun n => n) (fun n => [(0, .slice oa l.length c), (1, .string (str s)), (5, .int .i64 ((n : Int) - 1))]) (fun _ => I) (fun _ => L) (fun n => n ≤ l.length ∧ Bw l s = Ft l s n) l.length ⟨Nat.le_refl _, rfl⟩ ⟨rfl, rfl, rfl, trivial⟩ Cb ?_; rintro n ⟨hn, hl⟩ ih; refine Ah (Se rfl (Om rfl (Oc rfl rfl rfl (Ab ?_)))); refine Si rfl ?_ ?_
 ·intro c0; obtain ⟨m, rfl⟩ : ∃ m, n = m + 1 := ⟨n - 1, by omega⟩; obtain ⟨x, hx, hst⟩ := h.at m Aa; refine K6 (t := 5) (v' := .int .i64 (m : Nat)) rfl Eb ?_
  simp only [Ft, List.getD_eq_getElem?_getD, List.getElem?_eq_getElem (show m < l.length by omega), Option.getD_some] at hl
  refine Aj (Ah (Ar (Se rfl (Om rfl (Om rfl ?_))))); refine Cm rfl rfl _ rfl Bt Dg .free rfl ?_; refine Ct rfl .free rfl ?_; refine Om rfl (Od rfl rfl rfl (Ab ?_)); refine Si rfl ?_ ?_
  ·intro c1; refine Se rfl (Om rfl (Oa rfl (Ab (Al (.tmp rfl .nil) ?_)))); refine only rfl ?_; rw [hl, if_pos C8]; rfl
  intro c1; refine Aj (Aq (Am rfl (Om rfl ?_))); refine Or rfl rfl rfl ?_; refine Oa rfl (Ab ?_); refine Dl (E' := [(0, .slice oa l.length c), (1, .string (str s)), (5, .int .i64 ((m : Int) - 1))]) ⟨rfl, rfl, rfl, trivial⟩ (ih m ⟨by omega, ?_⟩ Aa); rw [hl, if_neg C8]
 intro c0; refine Cd rfl ?_; refine Se rfl (Oa rfl (Ab (Al (.tmp rfl .nil) ?_))); refine only rfl ?_; obtain rfl : n = 0 := by omega
 rw [hl]; rfl

def T0 (names types : List As) (s : As) : As := match Bw names s with
 | some i => types.getD i []
 | none => []
theorem Aa2 {I : Heap} {oa ob : Option Addr} {l m : List As} {c c' : Nat} (h : Strs I oa l c) (h' : Strs I ob m c') (hlm : l.length = m.length) (s : As) (L : Bl) :
  Fun Tryz.prog 194 [.slice oa l.length c, .slice ob m.length c', .string (str s)] I L (Ed (.string (str (T0 l m s))) I L) := by
 have hlen := h.len
 unfold Bd at hlen
 refine Ao Ad ?_; refine Se rfl (Oa rfl (Ab (Ah (Se rfl (Om rfl (On rfl ?_)))))); refine Or rfl rfl rfl ?_; refine Oa rfl (Ab (Ar ?_)); refine Dy (X := Nat) (fun n => n) (fun n => [(0, .slice oa l.length c), (1, .slice ob m.length c'), (2, .string (str s)), (7, .int .i64 ((n : Int) - 1))]) (fun _ => I) (fun _ => L) (fun n => n ≤ l.length ∧ Bw l s = Ft l s n) l.length ⟨Nat.le_refl _, rfl⟩ ⟨rfl, rfl, rfl, rfl, trivial⟩ Cb ?_; rintro n ⟨hn, hl⟩ ih; refine Ah (Se rfl (Om rfl (Oc rfl rfl rfl (Ab ?_)))); refine Si rfl ?_ ?_
 ·intro c0; obtain ⟨k, rfl⟩ : ∃ k, n = k + 1 := ⟨n - 1, by omega⟩; obtain ⟨x, hx, hst⟩ := h.at k Aa; obtain ⟨y, hy, hst'⟩ := h'.at k Aa; refine K6 (t := 7) (v' := .int .i64 (k : Nat)) rfl Eb ?_
  simp only [Ft, List.getD_eq_getElem?_getD, List.getElem?_eq_getElem (show k < l.length by omega), Option.getD_some] at hl
  refine Aj (Ah (Ar (Se rfl (Om rfl (Om rfl ?_))))); refine Cm rfl rfl _ rfl Bt Dg .free rfl ?_; refine Ct rfl .free rfl ?_; refine Om rfl (Od rfl rfl rfl (Ab ?_)); refine Si rfl ?_ ?_
  ·intro c1; refine Se rfl (Om rfl (Om rfl ?_)); refine Cm rfl rfl _ rfl Bt Dg .free rfl ?_; refine Ct rfl .free rfl ?_; refine Oa rfl (Ab (Al (.tmp rfl .nil) ?_)); refine only rfl ?_; rw [if_pos C8] at hl
   simp only [T0, hl]; simp [C6, show k < m.length by omega]
  intro c1; refine Aj (Aq (Am rfl (Om rfl ?_))); refine Or rfl rfl rfl ?_; refine Oa rfl (Ab ?_); refine Dl (E' := [(0, .slice oa l.length c), (1, .slice ob m.length c'), (2, .string (str s)), (7, .int .i64 ((k : Int) - 1))]) ⟨rfl, rfl, rfl, rfl, trivial⟩ (ih k ⟨by omega, ?_⟩ Aa); rw [hl, if_neg C8]
 intro c0; refine Cd rfl ?_; refine Se rfl (Oa rfl (Ab (Al (.tmp rfl .nil) ?_))); refine only rfl ?_; obtain rfl : n = 0 := by omega
 simp only [T0, hl, Ft]; rfl

def Yg (names types : List As) : Bool := decide (names.length ≤ 8) && decide (names.length = types.length) && names.all Bu && types.all fun s => (I5 s).isSome
structure ES where
 I : Heap
 i : Nat
 ts : List Tree
 B : K8
 c : Nat
 xs : List Value
structure Afk (I : Heap) (l m : List As) (x : ES) : Prop where
 hle : HLe I x.I
 hrl : RepL x.I x.ts x.xs
 hB : E0 2 x.i x.c x.xs x.B
 hlen : x.i = x.ts.length
 hi : x.i ≤ m.length
 hts : (m.take x.i).map I5 = x.ts.map some
 hall : (l.take x.i).all Bu = true

def RE (oa : Option Addr) (l m : List As) (c : Nat) (L : Bl) : Cx := fun v I' L' => ∃ oa' n c2 ob' ts c3, v = .tuple #[.agg [.slice oa' n c2, .slice ob' (List.length ts) c3].toArray, .bool (Yg l m)] ∧ L = L' ∧
 Rep I' (.node [] ts) [.string (str []), .slice ob' ts.length c3] ∧ (Yg l m = true → oa' = oa ∧ n = l.length ∧ c2 = c ∧ m.map I5 = ts.map some)
def LK (o : Option Nat) (ts : List Tree) (I : Heap) (L : Bl) : Cx := fun v I' L' => ∃ t cs ok, v = .tuple #[.agg cs.toArray, .bool ok] ∧ I = I' ∧ L = L' ∧ Rep I t cs ∧ ok = o.isSome ∧ ∀ i, o = some i → ts[i]? = some t
def Aez (l m : List As) (s : As) : Option As := bif Yg l m then (Bw l s).map fun i => m.getD i [] else none
def EL (o : Option As) (L : Bl) : Cx := fun v I' L' => v = .tuple #[.string (str (o.getD [])), .bool o.isSome] ∧ L = L'
section rules
variable {P : Program} {f : FuncId} {n : Nat} {I₀ : Heap} {Q : Cx} {k : List Item} {E : Hi} {I : Heap} {L : Bl}
variable {ops : Array Oper} {d : Nat} {ty : TypeId} {pos : String} {af : Array Edge} {g : Option (Nat × Bool)} {l : List Oper}

def Aex : BinOp → Bool → Bool → Option Bool
 | .eql, a, b => some (a == b)
 | .neq, a, b => some (!(a == b))
 | _, _, _ => none
theorem H4 {S : World → Prop} {T e : TypeId} {sz bb esz ebb : Nat} {z ez : List Value} {dd : TypeDesc} [ht : Av P T (.slice e) sz bb z] [hte : Av P e dd esz ebb ez] {x y : Operand} {oa : Option Addr} {ad : Addr} {m c : Nat} {i : Int}
  (hx : B8 E x = some (.slice oa m c)) (hy : B8 E y = some (.int .i64 i)) (i' : Nat) (hi : i = i') (him : i' < m) (hoa : oa = some ad) : Hj P E S ⟨some d, .indexAddr T x y, ty, pos, af, g⟩ (.pointer (some (ad.add (i' * esz)))) :=
 Pw (hoa ▸ hx) hy i' hi him

end rules
structure Raw (I : Heap) (oa : Option Addr) (l : List As) (c : Nat) : Prop where
 still : ∀ x, oa = some x → Still I x (l.map sv)
 nil : oa = none → l = []
 cap : l.length ≤ c
 len : l.length ≤ 9223372036854775807
 each : ∀ s ∈ l, s.length ≤ 9223372036854775807
theorem Raw.at {I : Heap} {oa : Option Addr} {l : List As} {c : Nat} (h : Raw I oa l c) (i : Nat) (hi : i < l.length) : ∃ x, oa = some x ∧ Still I (x.add (i * 1)) [.string (str l[i])] := by
 cases oa with
 | none => have := h.nil rfl; subst this; simp at hi
 | some x =>
  refine ⟨x, rfl, (h.still x rfl).part (i * 1) ?_⟩; intro j hj; obtain rfl : j = 0 := by simpa using hj
  simp [hi, sv]

def SZ (left : Nat) (l : List As) (I : Heap) (L : Bl) : Cx := fun v I' L' => ∃ r : Int, v = .int .i64 r ∧ I = I' ∧ L = L' ∧ r ≤ left ∧ (0 ≤ r → l.length ≤ left ∧ ∀ s ∈ l, s.length ≤ left)
def TS (l : List As) (L : Bl) : Cx := fun v I' L' => ∃ x, v = .slice (some x) l.length l.length ∧ Strs I' (some x) l l.length ∧ L = L'
section rules
variable {P : Program} {f : FuncId} {n : Nat} {I₀ : Heap} {Q : Cx} {k : List Item} {E : Hi} {I : Heap} {L : Bl}
variable {ops : Array Oper} {d : Nat} {ty : TypeId} {pos : String} {af : Array Edge} {g : Option (Nat × Bool)} {l : List Oper}

theorem Yo {S : World → Prop} {T T' : TypeId} {x y : Operand} {a b : Nat} (hx : B8 E x = some (.int .i64 (a : Nat))) (hy : B8 E y = some (.int .i64 (b : Nat))) (hb : 0 < b) :
  Hj P E S ⟨some d, .binOp .rem T x y T', ty, pos, af, g⟩ (.int .i64 ((a % b : Nat))) := fun ac w he _ => by
 simp only [execOp, he.eval hx, he.eval hy]
 refine Ag (a := _) (w' := w) ?_ |>.trans rfl
 rw [Ag (E7 w)]
 have h0 : ¬ ((b : Int) = 0) := by omega
 have h1 : ((a : Int).tmod (b : Int)) = ((a % b : Nat) : Int) := by rw [Int.ofNat_tmod]
 simp only [binOp, Op.intDiv, if_neg h0, h1, ne_eq, not_true_eq_false, if_false]; rfl
theorem Adk {T T' : TypeId} {x y : Operand} {a b : Nat} (hx : B8 E x = some (.int .i64 (a : Nat))) (hy : B8 E y = some (.int .i64 (b : Nat))) (hb : 0 < b) (hg : Wants ops E g) (hdn : Nat.blt d n = true)
  (h : A3 P f n I₀ Q ops l k ((d, .int .i64 ((a % b : Nat))) :: E) I L) : A3 P f n I₀ Q ops (⟨some d, .binOp .rem T x y T', ty, pos, af, g⟩ :: l) k E I L := D8 (Yo hx hy hb) hg hdn h
theorem Aca {S : World → Prop} {T T' : TypeId} {x y : Operand} {a b : Nat} (hx : B8 E x = some (.int .i64 (a : Nat))) (hy : B8 E y = some (.int .i64 (b : Nat))) (hb : 0 < b) (ha : a ≤ 9223372036854775807) :
  Hj P E S ⟨some d, .binOp .quo T x y T', ty, pos, af, g⟩ (.int .i64 ((a / b : Nat))) := fun ac w he _ => by
 simp only [execOp, he.eval hx, he.eval hy]
 refine Ag (a := _) (w' := w) ?_ |>.trans rfl
 rw [Ag (E7 w)]
 have h0 : ¬ ((b : Int) = 0) := by omega
 have h1 : ((a : Int).tdiv (b : Int)) = ((a / b : Nat) : Int) := by rw [Int.ofNat_tdiv]
 have h2 : IntKind.i64.wrap ((a / b : Nat) : Int) = ((a / b : Nat) : Int) := by
  obtain ⟨q, hq, hle⟩ : ∃ q, q = a / b ∧ q ≤ a := ⟨_, rfl, Nat.div_le_self a b⟩; rw [← hq]; exact Oi Aa
 simp only [binOp, Op.intDiv, if_neg h0, h1, h2, ne_eq, not_true_eq_false, if_false]; rfl
theorem Aeo {T T' : TypeId} {x y : Operand} {a b : Nat} (hx : B8 E x = some (.int .i64 (a : Nat))) (hy : B8 E y = some (.int .i64 (b : Nat))) (hb : 0 < b) (ha : a ≤ 9223372036854775807) (hg : Wants ops E g) (hdn : Nat.blt d n = true)
  (h : A3 P f n I₀ Q ops l k ((d, .int .i64 ((a / b : Nat))) :: E) I L) : A3 P f n I₀ Q ops (⟨some d, .binOp .quo T x y T', ty, pos, af, g⟩ :: l) k E I L := D8 (Aca hx hy hb ha) hg hdn h
theorem Aet {S : World → Prop} {T T' : TypeId} {x y : Operand} {a b : Nat} (hx : B8 E x = some (.int .i64 (a : Nat))) (hy : B8 E y = some (.int .i64 (b : Nat))) (ha : a ≤ 9223372036854775807) (hb : b ≤ 9223372036854775807) :
  Hj P E S ⟨some d, .binOp .xor T x y T', ty, pos, af, g⟩ (.int .i64 ((a ^^^ b : Nat))) := fun ac w he _ => by
 simp only [execOp, he.eval hx, he.eval hy]
 refine Ag (a := _) (w' := w) ?_ |>.trans rfl
 rw [Ag (E7 w)]
 have hn : ∀ c : Nat, c ≤ 9223372036854775807 → (BitVec.ofInt 64 (c : Int)).toNat = c := fun c hc => by
  rw [BitVec.ofInt_natCast, BitVec.toNat_ofNat]; exact Nat.mod_eq_of_lt (by omega)
 have hlt : a ^^^ b < 2 ^ 63 := Nat.xor_lt_two_pow (by omega) (by omega)
 have h1 : (BitVec.ofInt IntKind.i64.bits (a : Int) ^^^ BitVec.ofInt IntKind.i64.bits (b : Int)).toNat = a ^^^ b := by
  show (BitVec.ofInt 64 (a : Int) ^^^ BitVec.ofInt 64 (b : Int)).toNat = _
  rw [BitVec.toNat_xor, hn a ha, hn b hb]
 have h2 : IntKind.i64.wrap ((a ^^^ b : Nat) : Int) = ((a ^^^ b : Nat) : Int) := Oi Aa
 simp only [binOp, Op.intBits, h1, h2, ne_eq, not_true_eq_false, if_false]; rfl
theorem Aep {T T' : TypeId} {x y : Operand} {a b : Nat} (hx : B8 E x = some (.int .i64 (a : Nat))) (hy : B8 E y = some (.int .i64 (b : Nat))) (ha : a ≤ 9223372036854775807) (hb : b ≤ 9223372036854775807) (hg : Wants ops E g) (hdn : Nat.blt d n = true)
  (h : A3 P f n I₀ Q ops l k ((d, .int .i64 ((a ^^^ b : Nat))) :: E) I L) : A3 P f n I₀ Q ops (⟨some d, .binOp .xor T x y T', ty, pos, af, g⟩ :: l) k E I L := D8 (Aet hx hy ha hb) hg hdn h

theorem Pi {S : World → Prop} {src dst sz bb sz2 bb2 : Nat} {z z2 : List Value} [hs : Av P src (.int .u8) sz bb z] [hd : Av P dst (.int .i64) sz2 bb2 z2] {x : Operand} {a : Nat} (hx : B8 E x = some (.int .u8 (a : Nat))) (ha : a < 256) :
  Hj P E S ⟨some d, .convert src dst x, ty, pos, af, g⟩ (.int .i64 (a : Nat)) := fun ac w he _ => by
 simp only [execOp, he.eval hx]
 refine Ag (a := .int .i64 (a : Nat)) (w' := w) ?_ |>.trans rfl
 unfold convert
 rw [Ag (A6 hs.und w), Ag (A6 hd.und w)]
 simp only [Conv.intToInt]
 rw [Oi (by omega)]
 rfl
theorem Ml {src dst sz bb sz2 bb2 : Nat} {z z2 : List Value} [hs : Av P src (.int .u8) sz bb z] [hd : Av P dst (.int .i64) sz2 bb2 z2] {x : Operand} {a : Nat} (hx : B8 E x = some (.int .u8 (a : Nat))) (ha : a < 256) (hg : Wants ops E g) (hdn : Nat.blt d n = true)
  (h : A3 P f n I₀ Q ops l k ((d, .int .i64 (a : Nat)) :: E) I L) : A3 P f n I₀ Q ops (⟨some d, .convert src dst x, ty, pos, af, g⟩ :: l) k E I L := D8 (Pi hx ha) hg hdn h
end rules

structure Bytes (I : Heap) (oa : Option Addr) (l : List UInt8) (c : Nat) : Prop where
 still : ∀ x, oa = some x → Still I x (l.map bv)
 nil : oa = none → l = []
 cap : l.length ≤ c
 len : l.length ≤ 9223372036854775807
theorem Bytes.mono {I I' : Heap} {oa : Option Addr} {l : List UInt8} {c : Nat} (hle : HLe I I') (h : Bytes I oa l c) : Bytes I' oa l c :=
 ⟨fun x hx => (h.still x hx).mono hle, h.nil, h.cap, h.len⟩
theorem Bytes.at {I : Heap} {oa : Option Addr} {l : List UInt8} {c : Nat} (h : Bytes I oa l c) (i : Nat) (hi : i < l.length) : ∃ x, oa = some x ∧ Still I (x.add (i * 1)) [.int .u8 (l[i].toNat : Nat)] := by
 cases oa with
 | none => have := h.nil rfl; subst this; simp at hi
 | some x =>
  refine ⟨x, rfl, (h.still x rfl).part (i * 1) ?_⟩; intro j hj; obtain rfl : j = 0 := by simpa using hj
  simp [hi, bv]
end Go.Proofs.YtmfagaajiakgoaaGreatDoor
