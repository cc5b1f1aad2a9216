/- What reading a whole text returns. No conditions. -/
import Derived.Test.YtmfagaajiakgoaaGreatDoorG3
import Derived.Lib.Builder
import Derived.Lib.UnsafeStr
import Derived.Laws.MakeOwn

namespace Go.Proofs.YtmfagaajiakgoaaGreatDoor
set_option maxRecDepth 100000
set_option linter.unusedVariables false
set_option linter.unusedSimpArgs false

def RD (p : Option Tree) (L : Bm ) : C2   := fun v I' L' => ∃ t cs ok, v = .tuple #[.agg cs.toArray, .bool ok] ∧ Rep I' t cs ∧ L = L' ∧
  (match p with
   | some t0 => ok = true ∧ t = t0
   | none => ok = false)

theorem Adn (s : Au) (hs : s.length ≤ Be) (I : Heap) (L : Bm) : Fun Tryz.prog 90 [.string (str s)] I L (RD (Dn s) L) := by
 unfold Be at hs
 refine Ap Af ?_; refine Se rfl ?_; refine A3 .free rfl ?_; intro b2; refine Oa rfl (Aa (Ah (Se rfl (Om rfl ?_)))); refine C1 rfl .free rfl ?_; refine Oc rfl rfl rfl (Aa ?_); refine Si rfl ?_ ?_
 ·intro c0; refine Se rfl ?_; refine B6 rfl rfl rfl .free rfl ?_; refine Bu rfl rfl rfl rfl .free ?_; refine Oa rfl (Aa ?_); refine Ak (.c rfl (.tmp rfl .nil)) ?_
  exact ⟨I, L, .refl _, fun _ h => h.drop, .node [] [], _, false, rfl, Rep.empty I, rfl, by rw [Dn, if_pos Ab]⟩
 intro c0; refine Aj (Se rfl (Om rfl ?_)); refine Ca rfl (W2 60 s Ab 0 rfl _ _) ?_; rintro _ J _ hleJ ⟨t, cs, r, ok, rfl, hrep, rfl, hrlen, hpf⟩; obtain ⟨oa, cc, vs, rfl, -⟩ := hrep.open; refine Om rfl ?_
 iterate 3 refine Oe rfl rfl ?_
 refine A3 .free rfl ?_; intro b4; refine Bu rfl rfl rfl rfl .free ?_; refine Oa rfl (Oa rfl (Aa (Se rfl ?_))); refine Cz rfl .free rfl ?_; refine Om rfl (Om rfl ?_)
 first | refine Gu rfl rfl ?_ ?_ | refine E8 rfl rfl ?_ ?_ | refine Lv rfl rfl ?_ ?_
 ·intro g4_3; refine Ow rfl ?_; refine Ck rfl rfl rfl (.met rfl rfl) rfl ?_; refine Ot rfl rfl ?_; refine Bu rfl rfl rfl rfl .free ?_; refine Oa rfl (Aa ?_); refine Ak (.c rfl (.tmp rfl .nil)) ?_; refine ⟨J, L, hleJ, fun _ h => h.drop.drop, t, _, _, rfl, hrep, rfl, ?_⟩; rw [Dn, if_neg Ab]
  cases hp : Eo 60 s with
  | none => simp_all
  | some p =>
   obtain ⟨t0, r0⟩ := p; rw [hp] at hpf; obtain ⟨rfl, rfl, rfl⟩ := hpf
   cases r <;> simp_all
 intro g4_3; refine Cl rfl rfl rfl ?_; refine Cl rfl rfl rfl ?_; refine Of rfl rfl ?_; refine Bu rfl rfl rfl rfl .free ?_; refine Oa rfl (Aa ?_); refine Ak (.c rfl (.tmp rfl .nil)) ?_; refine ⟨J, L, hleJ, fun _ h => h.drop.drop, t, _, _, rfl, hrep, rfl, ?_⟩; rw [Dn, if_neg Ab]
 cases hp : Eo 60 s with
 | none => simp_all
 | some p =>
  obtain ⟨t0, r0⟩ := p; rw [hp] at hpf; obtain ⟨rfl, rfl, rfl⟩ := hpf
  cases r <;> simp_all

def RT (p : Option Tree) (L : Bm ) : C2   := fun v I' L' => ∃ t cs ok, v = .tuple #[.agg cs.toArray, .bool ok] ∧ Rep I' t cs ∧ L = L' ∧
  (match p with
   | some t0 => ok = t0.typed ∧ t = t0
   | none => ok = false)

def LR (s : Au ) (p : Option (Tree × Au )) (L : Bm ) : C2   := fun v I' L' => ∃ t cs e, v = .tuple #[.agg cs.toArray, .int .i64 e] ∧ Rep I' t cs ∧ L = L' ∧
  (match p with
   | some (t0, r0) => t = t0 ∧ e = ((s.length - r0.length : Nat) : Int)
   | none => e = -1)
def H7 : Nat → Au → Option (Tree × Au)
 | 0, _ => none
 | k + 1, s => Eo k s
theorem Tz {k : Nat} {s : Au} {t : Tree} {r : Au} (h : H7 k s = some (t, r)) : r <:+ s := by
 cases k with
 | zero => cases h
 | succ k => exact N3 h
theorem Zl {k : Nat} {s : Au} {t : Tree} {r : Au} (h : H7 k s = some (t, r)) : r.length < s.length := by
 cases k with
 | zero => cases h
 | succ k => exact So h
theorem Ub : ∀ (n : Nat) (s : Au), E2 (fun _ => none) n s = none
 | 0, _ => rfl
 | n + 1, s => rfl
theorem Uc {k : Nat} {s : Au} (h : (s.getD 0 0).toNat = 40) : Eo k s = (match E2 (H7 k) s.length (s.drop 1) with
  | some (ts, r) => some (.node [] ts, r)
  | none => none) := by
 cases k with
 | zero => rw [Jt h, show H7 0 = fun _ => none from rfl, Ub]
 | succ k => exact Ip h
structure LS where
 I : Heap
 i : Nat
 m : Nat
 ts : List Tree
 B : K1
 c : Nat
 xs : List Value
 n : Nat
def Aeb (k : Nat) (s : Au) (i₀ : Nat) (I₀ : Heap) (x : LS) : Prop := HLe I₀ x.I ∧ RepL x.I x.ts x.xs ∧ E6 2 x.m x.c x.xs x.B ∧ x.m = x.ts.length ∧ x.i < s.length ∧ s.length - x.i ≤ x.n ∧ x.m + (s.length - x.i) ≤ s.length ∧
 Qe (H7 k) (Eo k (s.drop i₀)) ⟨x.I, s.drop x.i, x.m, x.ts, x.B, x.c, x.xs, x.n⟩
theorem Jd (s : Au) (i n : Nat) : (s.drop i).getD n 0 = s.getD (i + n) 0 := by simp [List.getD_eq_getElem?_getD, List.getElem?_drop]
theorem Ma {s : Au} {p : Option (Tree × Au)} {t : Tree} {cs : List Value} {I : Heap} {L : Bm} (hr : Rep I t cs) (hp : p = none) : LR s p L (.tuple #[.agg cs.toArray, .int .i64 (-1)]) I L :=
 ⟨t, cs, -1, rfl, hr, rfl, by rw [hp]⟩

theorem Aat : ∀ (k : Nat) (s : Au) (_ : s.length ≤ 12000) (i : Nat) (_ : i ≤ s.length) (depth : Nat) (_ : depth + k = 61) (I : Heap) (L : Bm),
  Fun Tryz.prog 144 [.string (str s), .int .i64 (i : Nat), .int .i64 (depth : Nat)] I L (LR s (H7 k (s.drop i)) L) := by
 intro k
 induction k with
 | zero =>
  intro s hsl i hi depth hdeep I L; refine Ap Af ?_; refine Se rfl ?_; refine A3 .free rfl ?_; intro b6; refine Oa rfl (Aa (Se rfl ?_)); refine B6 rfl rfl rfl .free rfl ?_; refine A3 .free rfl ?_; intro b8; refine Bu rfl rfl rfl rfl .free ?_; refine Aa (Ah (Se rfl (Om rfl (Oc rfl rfl rfl (Om rfl ?_)))))
  first | refine Ads rfl rfl Ab ?_ | refine Adr rfl rfl Ab ?_
  iterate 4 refine Cl rfl rfl rfl ?_
  refine Ot rfl rfl (Aa ?_); refine Bo rfl ?_; refine Se rfl ?_; refine Cz rfl .free rfl ?_; refine Bu rfl rfl rfl rfl .free ?_; refine Oa rfl (Aa ?_); refine Ak (.c rfl (.tmp rfl .nil)) ?_
  exact ⟨I, L, .refl _, fun _ h => h.drop.drop, .node [] [], _, -1, rfl, Rep.empty I, rfl, rfl⟩
 | succ k ihk =>
  intro s hsl i hi depth hdeep I L; refine Ap Af ?_; refine Se rfl ?_; refine A3 .free rfl ?_; intro b6; refine Oa rfl (Aa (Se rfl ?_)); refine B6 rfl rfl rfl .free rfl ?_; refine A3 .free rfl ?_; intro b8; refine Bu rfl rfl rfl rfl .free ?_; refine Aa (Ah (Se rfl (Om rfl (Oc rfl rfl rfl (Om rfl ?_)))))
  first | refine Adq rfl rfl Ab ?_ | refine Adp rfl rfl Ab ?_
  refine Ow rfl (Ow rfl ?_); refine C1 rfl (.met rfl rfl) rfl ?_; refine Dq rfl rfl rfl (.met rfl rfl) rfl ?_; refine Of rfl rfl (Aa ?_); refine Si rfl ?_ ?_
  ·intro c0; refine Se rfl ?_; refine Cz rfl .free rfl ?_; refine Bu rfl rfl rfl rfl .free ?_; refine Oa rfl (Aa ?_); refine Ak (.c rfl (.tmp rfl .nil)) ?_
   exact ⟨I, L, .refl _, fun _ h => h.drop.drop, Ma (Rep.empty I) (by simp only [H7]; rw [List.drop_eq_nil_of_le Ab]; cases k <;> rfl)⟩
  intro c0; refine Aj (Ah (Se rfl (Om rfl (Om rfl ?_)))); refine Dr rfl rfl rfl B7 .free rfl ?_; refine Oc rfl rfl rfl (Aa ?_); refine Si rfl ?_ ?_
  ·intro c1
   have h40 : ((s.drop i).getD 0 0).toNat ≠ 40 := by rw [Jd]; simp only [Nat.add_zero]; omega
   refine Se rfl (Om rfl (Oa rfl (Aa (Ah (Aq ?_))))); refine D7 (X := Nat) (fun n => s.length - i - n) (fun n => [(0, .string (str s)), (1, .int .i64 ((i + n : Nat))), (6, .pointer (some ⟨b6, 0, none⟩)), (8, .pointer (some ⟨b8, 0, none⟩)), (9, .int .i64 (i : Nat))]) (fun _ => I)
    (fun _ => (b8, .cells [.string (str []), .slice none 0 0].toArray 68 (0, 0)) :: (b6, .cells [.string (str []), .slice none 0 0].toArray 68 (0, 0)) :: L) (fun n => i + n ≤ s.length ∧ ((s.drop i).take n).all E7 = true) 0 ⟨by omega, by simp⟩ ⟨rfl, rfl, rfl, rfl, rfl, trivial⟩ (fun _ h => h) ?_
   rintro n ⟨hn, hall⟩ ih; refine Ah (Se rfl (Om rfl (Om rfl ?_))); refine C1 rfl .free rfl ?_; refine Oc rfl rfl rfl (Om rfl ?_)
   first | refine Gu rfl rfl ?_ ?_ | refine E8 rfl rfl ?_ ?_ | refine Lv rfl rfl ?_ ?_
   ·intro g6_5; refine Ow rfl (Ow rfl ?_); refine Dr rfl rfl rfl B7 (.met rfl rfl) rfl ?_; refine Cq rfl (.met rfl rfl) rfl (Aas _ _ _) ?_; rintro _ _ _ _ ⟨rfl, rfl, rfl⟩; refine Ot rfl rfl (Aa ?_); refine Si rfl ?_ ?_
    ·intro c2; refine Aj (Aq (Al rfl (Om rfl ?_))); refine Or rfl rfl rfl ?_; refine Oa rfl (Aa (Ar ?_)); refine Bw (E' := [(0, .string (str s)), (1, .int .i64 ((i + (n + 1) : Nat))), (6, .pointer (some ⟨b6, 0, none⟩)), (8, .pointer (some ⟨b8, 0, none⟩)), (9, .int .i64 (i : Nat))]) ⟨rfl, rfl, rfl, rfl, rfl, trivial⟩ (ih (n + 1) ⟨by omega, Jw hall (by rw [List.length_drop]; omega) (by rw [Jd]; assumption)⟩ Ab)
    intro c2; refine Cd rfl ?_; refine Ah ?_
    have htw := Lg (n := n) hall (by first | exact .inl (by rw [List.length_drop]; omega) | exact .inr ⟨by rw [List.length_drop]; omega, by rw [Jd]; assumption⟩)
    have hpo := Hn (k := k) h40
    rw [htw.1, htw.2] at hpo
    have hdt : (s.take (i + n)).drop i = (s.drop i).take n := by rw [List.drop_take]; congr 1; omega
    refine Al rfl ?_
    iterate 3 refine Om rfl ?_
    refine Pz rfl rfl rfl i (i + n) rfl rfl Ab .free rfl ?_; rw [hdt]
    first | refine Oh rfl ?_ | refine Oj rfl ?_
    refine Bu rfl rfl rfl rfl .free ?_; refine Aa (Ah (Se rfl ?_))
    first | refine Oh rfl ?_ | refine Oj rfl ?_
    refine Cz rfl .free rfl ?_; refine Od rfl rfl rfl (Aa ?_); refine Si rfl ?_ ?_
    ·intro c3; refine Se rfl ?_; refine Cz rfl .free rfl ?_; refine Bu rfl rfl rfl rfl .free ?_; refine Oa rfl (Aa ?_); refine Ak (.c rfl (.tmp rfl .nil)) ?_
     exact ⟨I, L, .refl _, fun _ h => h.drop.drop, Ma (.ofAtom H8) (by simp only [H7]; rw [hpo, if_pos Dw])⟩
    intro c3; refine Aj (Se rfl ?_); refine Cz rfl .free rfl ?_; refine Om rfl ?_; refine Bu rfl rfl rfl rfl .free ?_; refine Oa rfl (Aa ?_); refine Ak (.c rfl (.tmp rfl .nil)) ?_; refine ⟨I, L, .refl _, fun _ h => h.drop.drop, .node ((s.drop i).take n) [], _, _, rfl, .ofAtom H8, rfl, ?_⟩
    simp only [H7]; rw [hpo, if_neg Dw]
    refine ⟨rfl, ?_⟩
    simp only [List.length_drop]; omega
   intro g6_5
   iterate 4 refine Cl rfl rfl rfl ?_
   refine Of rfl rfl (Aa ?_); refine As rfl ?_; refine Cd rfl ?_; refine Ah ?_
   have htw := Lg (n := n) hall (by first | exact .inl (by rw [List.length_drop]; omega) | exact .inr ⟨by rw [List.length_drop]; omega, by rw [Jd]; assumption⟩)
   have hpo := Hn (k := k) h40
   rw [htw.1, htw.2] at hpo
   have hdt : (s.take (i + n)).drop i = (s.drop i).take n := by rw [List.drop_take]; congr 1; omega
   refine Al rfl ?_
   iterate 3 refine Om rfl ?_
   refine Pz rfl rfl rfl i (i + n) rfl rfl Ab .free rfl ?_; rw [hdt]
   first | refine Oh rfl ?_ | refine Oj rfl ?_
   refine Bu rfl rfl rfl rfl .free ?_; refine Aa (Ah (Se rfl ?_))
   first | refine Oh rfl ?_ | refine Oj rfl ?_
   refine Cz rfl .free rfl ?_; refine Od rfl rfl rfl (Aa ?_); refine Si rfl ?_ ?_
   ·intro c3; refine Se rfl ?_; refine Cz rfl .free rfl ?_; refine Bu rfl rfl rfl rfl .free ?_; refine Oa rfl (Aa ?_); refine Ak (.c rfl (.tmp rfl .nil)) ?_
    exact ⟨I, L, .refl _, fun _ h => h.drop.drop, Ma (.ofAtom H8) (by simp only [H7]; rw [hpo, if_pos Dw])⟩
   intro c3; refine Aj (Se rfl ?_); refine Cz rfl .free rfl ?_; refine Om rfl ?_; refine Bu rfl rfl rfl rfl .free ?_; refine Oa rfl (Aa ?_); refine Ak (.c rfl (.tmp rfl .nil)) ?_; refine ⟨I, L, .refl _, fun _ h => h.drop.drop, .node ((s.drop i).take n) [], _, _, rfl, .ofAtom H8, rfl, ?_⟩
   simp only [H7]; rw [hpo, if_neg Dw]
   refine ⟨rfl, ?_⟩
   simp only [List.length_drop]; omega
  intro c1; refine Aj (Aq ?_)
  have hi' : i < s.length := by omega
  refine D7 (X := LS) (fun x => s.length - x.i) (fun x => [(0, .string (str s)), (1, .int .i64 (x.i : Nat)), (2, .int .i64 (depth : Nat)), (6, .pointer (some ⟨b6, 0, none⟩)), (8, .pointer (some ⟨b8, 0, none⟩))]) (fun x => x.I)
   (fun x => (b8, .cells [.string (str []), Ci x.m x.c x.B].toArray 68 (0, 0)) :: (b6, .cells [.string (str []), .slice none 0 0].toArray 68 (0, 0)) :: (Cn 68 x.xs x.B ++ L)) (Aeb k s i I) ⟨I, i, 0, [], none, 0, [], s.length - i⟩
   ⟨.refl _, .nil, ⟨rfl, rfl, rfl⟩, rfl, hi', Nat.le_refl _, by simp, by
    have := Uc (k := k) (s := s.drop i) (by rw [Jd]; simp only [Nat.add_zero]; omega)
    rw [List.length_drop] at this
    unfold Qe
    split <;> simp_all⟩ ⟨rfl, rfl, rfl, rfl, rfl, trivial⟩ (fun _ h => h) ?_
  rintro x ⟨hle, hrl, hB, hxm, hxi, hxn, hxt, hlink⟩ ih; refine Aq (Se rfl (Om rfl (Om rfl ?_))); refine Or rfl rfl rfl ?_; refine Om rfl ?_; refine Or rfl rfl rfl ?_; refine Ca rfl (ihk s hsl (x.i + 1) Ab (depth + 1) Ab _ _) ?_; rintro _ J _ hleJ ⟨t, cs, e, rfl, hrep, rfl, hpf⟩; obtain ⟨oa, cc, vs, rfl, -⟩ := hrep.open
  have hdd : (s.drop x.i).drop 1 = s.drop (x.i + 1) := by rw [List.drop_drop]
  obtain ⟨je, hje⟩ : ∃ je : Nat, e = je ∨ e = -1 := by
   cases hp : H7 k (s.drop (x.i + 1)) with
   | none => rw [hp] at hpf; exact ⟨0, .inr hpf⟩
   | some p => rw [hp] at hpf; exact ⟨_, .inl hpf.2⟩
  refine Om rfl (Oe rfl rfl (Oe rfl rfl ?_)); refine A3 .free rfl ?_; intro b10; refine Bu rfl rfl rfl rfl .free ?_; refine Oa rfl (Aa (Ah (Se rfl (Om rfl (Oc rfl rfl rfl (Om rfl ?_))))))
  first | refine Gu rfl rfl ?_ ?_ | refine E8 rfl rfl ?_ ?_ | refine Lv rfl rfl ?_ ?_
  ·intro g13_3
   iterate 4 refine Cl rfl rfl rfl ?_
   refine Ot rfl rfl (Aa ?_); refine Bo rfl ?_; refine Ah ?_; refine Bk (fun w h => h.u3) (P1 (a := []) (hrl.mono hleJ) hB hxm Eh Cu ?_); intro J2 hle2 hrep2; refine Al rfl ?_; refine Cz rfl .free rfl ?_; refine Bu rfl rfl rfl rfl .free ?_; refine Oa rfl (Aa ?_); refine Ak (.c rfl (.tmp rfl .nil)) ?_
   have hf : Eo k (s.drop i) = none := by
    refine Je hlink D1 ?_
    simp only [hdd]
    cases hp : H7 k (s.drop (x.i + 1)) with
    | none => exact .inl rfl
    | some p =>
     obtain ⟨t0, r0⟩ := p; rw [hp] at hpf; refine .inr ⟨t0, r0, rfl, .inl ?_⟩
     have h2 := hpf.2
     apply List.eq_nil_of_length_eq_zero
     omega
   exact ⟨J2, L, (hle.trans hleJ).trans hle2, fun _ h => h.drop.drop.drop, Ma hrep2 hf⟩
  intro g13_3; refine Ow rfl (Ow rfl ?_); refine C1 rfl (.met rfl rfl) rfl ?_; refine Dq rfl rfl rfl (.met rfl rfl) rfl ?_; refine Of rfl rfl (Aa ?_); refine Si rfl ?_ ?_
  ·intro c4; refine Ah ?_; refine Bk (fun w h => h.u3) (P1 (a := []) (hrl.mono hleJ) hB hxm Eh Cu ?_); intro J2 hle2 hrep2; refine Al rfl ?_; refine Cz rfl .free rfl ?_; refine Bu rfl rfl rfl rfl .free ?_; refine Oa rfl (Aa ?_); refine Ak (.c rfl (.tmp rfl .nil)) ?_
   have hf : Eo k (s.drop i) = none := by
    refine Je hlink D1 ?_
    simp only [hdd]
    cases hp : H7 k (s.drop (x.i + 1)) with
    | none => exact .inl rfl
    | some p =>
     obtain ⟨t0, r0⟩ := p; rw [hp] at hpf; refine .inr ⟨t0, r0, rfl, .inl ?_⟩
     have h2 := hpf.2
     apply List.eq_nil_of_length_eq_zero
     omega
   exact ⟨J2, L, (hle.trans hleJ).trans hle2, fun _ h => h.drop.drop.drop, Ma hrep2 hf⟩
  intro c4; refine Aj (Ah ?_); obtain rfl : e = je := by omega
  obtain ⟨r, hpf', hre, hrne⟩ : ∃ r, H7 k (s.drop (x.i + 1)) = some (t, r) ∧ r = s.drop je ∧ r ≠ [] := by
   cases hp : H7 k (s.drop (x.i + 1)) with
   | none => rw [hp] at hpf; omega
   | some p =>
    obtain ⟨t0, r0⟩ := p; rw [hp] at hpf; obtain ⟨rfl, h2⟩ := hpf
    have hsf := Tz hp
    have h3 := Wc (hsf.trans (List.drop_suffix _ _))
    have h4 := hsf.length_le
    rw [List.length_drop] at h4
    have h5 : je = s.length - r0.length := by omega
    refine ⟨r0, rfl, by rw [h5]; exact h3, ?_⟩; intro e; subst e; simp at h5; omega
  have hrl0 : r.length = s.length - je := by rw [hre]; simp
  have hrpos := List.length_pos_iff.2 hrne
  have hrlt : x.i + 1 < je := by have := Zl hpf'; rw [List.length_drop] at this; omega
  refine Al rfl ?_
  first | refine Oh rfl ?_ | refine Oj rfl ?_
  refine Cz rfl .free rfl ?_; refine Cz rfl .free rfl ?_; refine Ol rfl rfl ?_; intro b71; refine Ea (B := x.B) (xs := x.xs) (ys := [.string (str t.atom), .slice oa t.parts.length cc]) (m := x.m) (c := x.c) Bl Ae rfl rfl hB (fun _ h => h.u4) Ae (fun a ha => by cases ha; exact Cm (.head _) Ae) Af Ae Ad Ad Ab Ad .free rfl ?_; intro bb sp c' hB'
  first | refine Oh rfl ?_ | refine Oj rfl ?_
  refine Bu rfl rfl rfl rfl .free ?_
  have hrl' : RepL J (x.ts ++ [t]) (x.xs ++ [Value.string (str t.atom), Value.slice oa t.parts.length cc]) := (hrl.mono hleJ).append (.cons hrep .nil)
  have hlen' : x.m + 1 = (x.ts ++ [t]).length := by simp [hxm]
  have hhd : r.getD 0 0 = s.getD je 0 := by rw [hre, Jd]; rfl
  refine Aa (Se rfl (Om rfl (Oa rfl (Aa (Ah (Se rfl (Om rfl (Om rfl ?_)))))))); refine Dr rfl rfl rfl Ab .free rfl ?_; refine Oc rfl rfl rfl (Aa ?_); refine Si rfl ?_ ?_
  ·intro c5; refine Ah ?_; refine Bn ?_; intro hfz; refine Al rfl ?_; refine Cz rfl .free rfl ?_; refine Om rfl ?_; refine Or rfl rfl rfl ?_; refine Bu rfl rfl rfl rfl .free ?_; refine Oa rfl (Aa ?_); refine Ak (.c rfl (.tmp rfl .nil)) ?_; refine ⟨_, L, (hle.trans hleJ).trans hfz, fun _ h => h.drop.drop.drop.drop, .node [] (x.ts ++ [t]), _, _, rfl, .mk' hlen' (hrl'.mono hfz) (fun y hy => by cases hy; exact Bi) Af hB'.2.1 Eh Cu, rfl, ?_⟩
   simp only [H7]
   rw [O7 hlink D1 (by simp only [hdd]; exact hpf') hrne (by rw [hhd]; omega)]; refine ⟨rfl, ?_⟩
   simp only [List.length_drop]; omega
  intro c5; refine Aj (Se rfl (Om rfl (Om rfl ?_))); refine Dr rfl rfl rfl Ab .free rfl ?_; refine Oc rfl rfl rfl (Aa ?_); refine Si rfl ?_ ?_
  ·intro c6; refine Ah ?_; refine Bn ?_; intro hfz; refine Al rfl ?_; refine Cz rfl .free rfl ?_; refine Bu rfl rfl rfl rfl .free ?_; refine Oa rfl (Aa ?_); refine Ak (.c rfl (.tmp rfl .nil)) ?_
   have hf : Eo k (s.drop i) = none := by
    refine Je hlink D1 (.inr ⟨t, r, by simp only [hdd]; exact hpf', .inr ⟨by rw [hhd]; omega, by rw [hhd]; omega⟩⟩)
   exact ⟨_, L, (hle.trans hleJ).trans hfz, fun _ h => h.drop.drop.drop.drop, Ma (t := .node [] (x.ts ++ [t])) (.mk' hlen' (hrl'.mono hfz) (fun y hy => by cases hy; exact Bi) Af hB'.2.1 Eh Cu) hf⟩
  intro c6; refine Aj (Ar ?_); refine Bk (fun w h => Mem.sub (L' := (b8, _) :: (b6, _) :: (bb, _) :: L) Bz h.f4.f4) (Bw ?_ (ih ⟨J, je, x.m + 1, x.ts ++ [t], some (bb, sp), c', _, x.n - 1⟩ ⟨hle.trans hleJ, hrl', hB', hlen', by simp only; omega, by simp only; omega, by simp only; omega, ?_⟩ D1))
  ·exact ⟨rfl, rfl, rfl, rfl, rfl, trivial⟩
  ·have := O8 (I := J) (B := some (bb, sp)) (c := c') (m' := x.m + 1) (xs := x.xs ++ [Value.string (str t.atom), Value.slice oa t.parts.length cc]) hlink D1 (by simp only [hdd]; exact hpf') hrne (by rw [hhd]; omega) (by rw [hhd]; omega)
   rw [hre] at this
   exact this

def Kw : Nat := 9223372036854775807
theorem O9 {n : Nat} (h : n ≤ Be) : n ≤ Kw := by unfold Be at h; unfold Kw; omega
theorem Hj (s : Au) (hs : s.length ≤ Kw) (I : Heap) (L : Bm) : Fun Tryz.prog 94 [.string (str s)] I L (RD (Dn s) L) := by
 unfold Kw at hs
 refine Ap Af ?_; refine Se rfl ?_; refine A3 .free rfl ?_; intro b2; refine Oa rfl (Aa (Ah (Se rfl (Om rfl ?_)))); refine C1 rfl .free rfl ?_; refine Oc rfl rfl rfl (Aa ?_); refine Si rfl ?_ ?_
 ·intro c0; refine Se rfl ?_; refine B6 rfl rfl rfl .free rfl ?_; refine Bu rfl rfl rfl rfl .free ?_; refine Oa rfl (Aa ?_); refine Ak (.c rfl (.tmp rfl .nil)) ?_
  exact ⟨I, L, .refl _, fun _ h => h.drop, .node [] [], _, false, rfl, Rep.empty I, rfl, by rw [Dn, if_pos Ab]⟩
 intro c0; refine Aj (Se rfl (Om rfl ?_)); refine Ca rfl (Aat 61 s Ab 0 Ab 0 rfl _ _) ?_; rintro _ J _ hleJ ⟨t, cs, e, rfl, hrep, rfl, hpf⟩; obtain ⟨oa, cc, vs, rfl, -⟩ := hrep.open; refine Om rfl (Oe rfl rfl (Oe rfl rfl ?_)); refine A3 .free rfl ?_; intro b4; refine Bu rfl rfl rfl rfl .free ?_; refine Oa rfl (Aa (Se rfl ?_)); refine Cz rfl .free rfl ?_; refine Om rfl (Om rfl ?_); refine C1 rfl .free rfl ?_; refine Oc rfl rfl rfl ?_; refine Bu rfl rfl rfl rfl .free ?_; refine Oa rfl (Aa ?_); refine Ak (.c rfl (.tmp rfl .nil)) ?_
 refine ⟨J, L, hleJ, fun _ h => h.drop.drop, t, _, _, rfl, hrep, rfl, ?_⟩; rw [Dn, if_neg Ab]
 simp only [H7, List.drop_zero] at hpf
 cases hp : Eo 60 s with
 | none =>
  rw [hp] at hpf
  simp only at hpf ⊢
  exact decide_eq_false Ab
 | some p =>
  obtain ⟨t0, r0⟩ := p
  have hsf := (N3 hp).length_le
  have hlt := So hp
  rw [hp] at hpf; obtain ⟨rfl, rfl⟩ := hpf
  cases r0 with
  | nil => exact ⟨decide_eq_true Af, rfl⟩
  | cons c r0 =>
   simp only [List.length_cons] at hlt hsf ⊢
   exact decide_eq_false Ab
theorem Sa (s : Au) (hs : s.length ≤ Be) (I : Heap) (L : Bm) : Fun Tryz.prog 94 [.string (str s)] I L (RD (Dn s) L) := Hj s (O9 hs) I L
def Iz (s : Au) : Option Tree := match Dn s with
 | some t => bif t.typed then some t else none
 | none => none
section rules
variable {P : Program} {f : FuncId} {n : Nat} {I₀ : Heap} {Q : C2} {k : List Item} {E : He} {I : Heap} {L : Bm}
variable {ops : Array Oper} {d : Nat} {ty : TypeId} {pos : String} {af : Array Edge} {g : Option (Nat × Bool)} {l : List Oper}

theorem Kg {c : Code} {rs : List ResultVar} {vs : List Value} {m : Nat} [hf : Bv P f c m rs] (hr : RetOk P E I L rs vs)
  (hp : ∃ I' L', HLe I₀ I' ∧ (∀ w, Mem I L w → Mem I' L' w) ∧ Q (Dl vs) I' L') : RunS P f n I₀ Q [] E I L := by
 obtain ⟨fn, hfn, _, _, hrs, _⟩ := hf.get; intro a w ha hd he hm cs; obtain ⟨I', L', hle, hmm, hq⟩ := hp; refine ⟨.returned (Dl vs), w, _, ⟨_, I', L', rfl, hle, hmm w hm, hq⟩, .one step_end, rfl, rfl, hd, rfl, fn, hfn, ?_⟩
 have h1 := Aby hr he hm
 have h2 : (fn.results.mapM (fun | .tmp t => pure (a.tmps.getD t undef) | .cell b t => do loadVar t (← asAddr (a.tmps.getD b undef)) : ResultVar → Sem Value)).run P w = .ok vs.toArray w := by
  rw [hrs, List.mapM_toArray]
  exact Ag h1
 unfold results
 rw [show ((base f).at a []).tmps = a.tmps from rfl]; refine Eq.trans (Ag h2) ?_
 cases vs with
 | nil => rfl
 | cons v vs =>
  cases vs with
  | nil => rfl
  | cons u us => simp [Dl, Gk]

theorem D4 {S : World → Prop} {x : Operand} {a : Addr} (hx : Ch E x = some (.pointer (some a))) : Hf P E S ⟨some d, .nilCheck x, ty, pos, af, g⟩ (.pointer (some a)) := fun ac w he _ => by
 simp only [execOp, he.eval hx]; rfl
theorem Az {x : Operand} {a : Addr} (hx : Ch E x = some (.pointer (some a))) (hg : Wants ops E g) (hdn : Nat.blt d n = true) (h : A6 P f n I₀ Q ops l k ((d, .pointer (some a)) :: E) I L) :
  A6 P f n I₀ Q ops (⟨some d, .nilCheck x, ty, pos, af, g⟩ :: l) k E I L := D8 (D4 hx) hg hdn h

theorem Hg {op : BinOp} {T : TypeId} {x y : Operand} {a b : Option Addr} (w : World) : (eqGuard op T x y (.pointer a) (.pointer b)).run P w = .ok () w := by
 unfold eqGuard; split <;> rfl
theorem Ab6 {S : World → Prop} {T T' e sz bb : Nat} {z : List Value} [ht : Ax P T (.pointer e) sz bb z] {x y : Operand} {oa : Option Addr} (hx : Ch E x = some (.pointer oa)) (hy : Ch E y = some (.pointer none)) :
  Hf P E S ⟨some d, .binOp .eql T x y T', ty, pos, af, g⟩ (.bool oa.isNone) := fun ac w he _ => by
 simp only [execOp, he.eval hx, he.eval hy]
 refine Ag (a := _) (w' := w) ?_ |>.trans rfl
 rw [Ag (Hg w)]
 have h : ∀ d : Nat, (Op.equalIn (d + 1) T (.pointer oa) (.pointer none)).run P w = .ok oa.isNone w := fun d => by
  unfold Op.equalIn
  rw [Ag (A9 ht.und w)]
  cases oa <;> rfl
 simp only [binOp, Op.equal]
 exact Ag (h 9999) |>.trans rfl
theorem Vv {T T' e sz bb : Nat} {z : List Value} [ht : Ax P T (.pointer e) sz bb z] {x y : Operand} {oa : Option Addr} (hx : Ch E x = some (.pointer oa)) (hy : Ch E y = some (.pointer none)) (hg : Wants ops E g) (hdn : Nat.blt d n = true)
  (h : A6 P f n I₀ Q ops l k ((d, .bool oa.isNone) :: E) I L) : A6 P f n I₀ Q ops (⟨some d, .binOp .eql T x y T', ty, pos, af, g⟩ :: l) k E I L := D8 (Ab6 hx hy) hg hdn h
theorem Zp {T T' e sz bb esz ebb : Nat} {z ez : List Value} {dd : TypeDesc} [ht : Ax P T (.pointer e) sz bb z] [hte : Ax P e dd esz ebb ez] {x y : Operand} {a : Addr} (hx : Ch E x = some (.pointer (some a))) (hy : Ch E y = some (.pointer (some a))) (hg : Wants ops E g) (hdn : Nat.blt d n = true)
  (h : A6 P f n I₀ Q ops l k ((d, .bool false) :: E) I L) : A6 P f n I₀ Q ops (⟨some d, .binOp .neq T x y T', ty, pos, af, g⟩ :: l) k E I L :=
 Abq (fun ac w he => by
  simp only [execOp, he.eval hx, he.eval hy]
  refine Ag (a := _) (w' := w) ?_ |>.trans rfl
  rw [Ag (Hg w)]; obtain ⟨i, z, hi, _⟩ := hte.info
  exact Lib.run_neq_ptr_same w a ht.und hi) hg hdn h

theorem Pi {b : Nat} {c : Array Value} {T : TypeId} {fr : Nat × Nat} {w : World} (hm : (b, Obj.cells c T fr) ∈ L) (hw : Mem I L w) : w.shape? b = some (T, c.size) := by
 simp [World.shape?, (hw.2.1 _ hm).1]
theorem Xn {src dst t sz bb sz2 bb2 tsz tbb : Nat} {z z2 tz : List Value} {dd : TypeDesc} [hs : Ax P src (.pointer t) sz bb z] [hd : Ax P dst .unsafePointer sz2 bb2 z2] [ht : Ax P t dd tsz tbb tz] {x : Operand} {b off : Nat} {cs : List Value} {U : TypeId} {fr : Nat × Nat}
  (hx : Ch E x = some (.pointer (some ⟨b, off, none⟩))) (hm : (b, Obj.cells cs.toArray U fr) ∈ L) (ht0 : tsz ≠ 0) (ho : off < cs.length) (hg : Wants ops E g) (hdn : Nat.blt d n = true)
  (h : A6 P f n I₀ Q ops l k ((d, .pointer (some ⟨b, off, none⟩)) :: E) I L) : A6 P f n I₀ Q ops (⟨some d, .convert src dst x, ty, pos, af, g⟩ :: l) k E I L :=
 D8 (fun ac w he hw => by
  obtain ⟨i, z, hi, hsz, _⟩ := ht.info
  simp only [execOp, he.eval hx]
  exact Ag (Lib.run_to_unsafe w ⟨b, off, none⟩ hs.und hd.und hi (by omega) (Pi hm hw) (by simpa using ho)) |>.trans rfl) hg hdn h
theorem T4 {src dst u sz bb sz2 bb2 usz ubb : Nat} {z z2 uz : List Value} {dd : TypeDesc} [hs : Ax P src .unsafePointer sz bb z] [hd : Ax P dst (.pointer u) sz2 bb2 z2] [hu : Ax P u dd usz ubb uz] {x : Operand} {b off : Nat} {cs : List Value} {U : TypeId} {fr : Nat × Nat}
  (hx : Ch E x = some (.pointer (some ⟨b, off, none⟩))) (hm : (b, Obj.cells cs.toArray U fr) ∈ L) (hl : liesAt P P.depth U (cs.length / P.cellsOf U) off u 1 = true) (hg : Wants ops E g) (hdn : Nat.blt d n = true)
  (h : A6 P f n I₀ Q ops l k ((d, .pointer (some ⟨b, off, none⟩)) :: E) I L) : A6 P f n I₀ Q ops (⟨some d, .convert src dst x, ty, pos, af, g⟩ :: l) k E I L :=
 D8 (fun ac w he hw => by
  obtain ⟨i, z, hi, _⟩ := hu.info
  simp only [execOp, he.eval hx]
  exact Ag (Lib.run_from_unsafe w ⟨b, off, none⟩ hs.und hd.und hi (Pi hm hw) (by simpa using hl)) |>.trans rfl) hg hdn h

theorem Abn {kf : FuncId} {args : Array Operand} {tys : Array TypeId} {vs : List Value} {v : Value} {fn : Func} {e : Array Value → Sem Value} (hf : P.funcs[kf]? = some fn) (hb : fn.body = none) (hne : (fn.name == "runtime.NumGoroutine") = false)
  (h1 : (Extern.findNext fn).isNone = true) (h2 : Extern.find fn = some e) (hv : ∀ w, (e vs.toArray).run P w = .ok v w)
  (ha : H4 E args.toList = some vs) (hg : Wants ops E g) (hdn : Nat.blt d n = true) (h : A6 P f n I₀ Q ops l k ((d, v) :: E) I L) :
  A6 P f n I₀ Q ops (⟨some d, .call ⟨.value (.func kf), args, tys⟩, ty, pos, af, g⟩ :: l) k E I L :=
 Abq (fun a w he => by
  have h3 : args.map a.eval = vs.toArray := Array.ext' (by simpa using he.evals ha)
  simp only [execOp, resolve, h3]
  simp only [Act.eval, Deferred.ofValue, pure_bind, invoke]
  unfold callFunc
  rw [Ag (a := P) (w' := w) rfl]
  have h1' : Extern.findNext fn = none := by simpa using h1
  simp only [hf, hne, hb, Option.isNone_none, if_true, if_false, Bool.false_eq_true, h1', h2]
  rw [Ag (a := ()) (w' := w) rfl]
  have := hv w
  simp only [Array.append_empty, Array.empty_append]
  exact Ag this |>.trans rfl) hg hdn h

theorem L1 {T e T2 : TypeId} {sz bb esz ebb : Nat} {z ez : List Value} {dd dd2 : TypeDesc} (ht : Ax P T (.slice e) sz bb z) (hte : Ax P e dd esz ebb ez) {base : Option Addr} {m c : Nat} {x : Value} (hu2 : P.underlying T2 = some dd2) (hni : ∀ kk, dd2 ≠ .int kk)
  (hmc : m ≤ c) {w : World} (hxl : (Builtin.lenOf x).run P w = .ok 0 w) (hxf : (Builtin.firstCells esz 0 x).run P w = .ok #[] w) :
  (Builtin.append_ #[T, T2] T #[.slice base m c, x]).run P w = .ok (.slice base m c) w := by
 unfold Builtin.append_
 simp only [List.getElem?_toArray, List.getElem?_cons_zero, List.getElem?_cons_succ]
 rw [Ag (A9 ht.und w)]
 simp only []
 rw [Ag (Fe hte w)]; rw [Ag (A9 hu2 w)]
 have hz : (match dd2 with | .int _ => true | _ => false) = false := by
  cases dd2 <;> first | rfl | exact absurd rfl (hni _)
 simp only [hz, pure_bind, Bool.false_eq_true, if_false, Bool.not_false, if_true]
 rw [Ag hxl]
 simp only [Nat.add_zero, if_pos hmc]
 rw [Ag hxf]
 cases base <;> rfl

def bv (b : UInt8) : Value := .int .u8 (b.toNat : Nat)
theorem N6 {s : List UInt8} {w : World} : (Builtin.firstCells 1 s.length (.string (str s))).run P w = .ok (s.map bv).toArray w := by
 simp only [Builtin.firstCells, Gk]
 congr 1
 apply Array.ext'
 simp [str, ByteArray.data_extract, bv]
theorem Re {s : List UInt8} {w : World} : (Builtin.lenOf (.string (str s))).run P w = .ok s.length w := by
 simp [Builtin.lenOf, Gk, str, ByteArray.size]
theorem Aac (s : List UInt8) : (s.map bv).all Cr = true := by simp [bv, Cr]

theorem Vt {T T2 e : TypeId} {sz bb ebb sz2 bb2 : Nat} {z ez z2 : List Value} {dd : TypeDesc} [ht : Ax P T (.slice e) sz bb z] [hte : Ax P e dd 1 ebb ez] [ht2 : Ax P T2 .string sz2 bb2 z2]
  {x y : Operand} {B : K1} {xs : List Value} {s : List UInt8} {m c : Nat} {L₀ : Bm} (hez : ez.length = 1)
  (hx : Ch E x = some (Ci m c B)) (hy : Ch E y = some (.string (str s))) (hB : E6 1 m c xs B) (hL : ∀ w, Mem I L w → Mem I (Cn e xs B ++ L₀) w)
  (hsize : (m + s.length) ≤ 4294967296) (hbytes : ebb ≤ 1024) (hg : Wants ops E g) (hdn : Nat.blt d n = true)
  (h : ∀ B' c', E6 1 (m + s.length) c' (xs ++ s.map bv) B' → (s ≠ [] → B' ≠ none) → (s = [] → B' = B) → A6 P f n I₀ Q ops l k ((d, Ci (m + s.length) c' B') :: E) I (Cn e (xs ++ s.map bv) B' ++ L₀)) :
  A6 P f n I₀ Q ops (⟨some d, .call ⟨.builtin .append, #[x, y], #[T, T2]⟩, T, pos, af, g⟩ :: l) k E I L := by
 refine I9 rfl hdn (fun a he => hg.wanted a he) fun a w he hm => ?_
 by_cases hs : s = []
 ·subst hs
  have hv : ∃ base cc, Ci m c B = .slice base m cc ∧ m ≤ cc ∧ cc = c := by
   cases B with
   | none => obtain ⟨h1, h2, h3⟩ := hB; exact ⟨none, 0, by simp [Ci, h2], by omega, h3.symm⟩
   | some p => exact ⟨_, c, rfl, hB.2.1, rfl⟩
  obtain ⟨base, cc, hbv, hmc, rfl⟩ := hv
  have := L1 (P := P) (T2 := T2) (base := base) (x := .string (str [])) (w := w) ht hte ht2.und Bl hmc Re N6
  refine ⟨_, w, I, _, ?_, hL w hm, by simpa using h B cc (by simpa using hB) Af (fun _ => rfl)⟩
  simp only [execOp, resolve, List.map_toArray, List.map, he.eval hx, he.eval hy, pure_bind, invoke, builtin, hbv]
  exact Ag this |>.trans rfl
 ·have hpos := List.length_pos_iff.2 hs
  obtain ⟨w', B', c', hr, hne, hB', hm'⟩ := Na (x := .string (str s)) (m2 := s.length) (ys := s.map bv) ht hte hez ht2.und Bl hB (hL w hm) Af (fun _ => Re) (fun w hw => N6) (Aac s) hpos Ad hsize hbytes; refine ⟨_, w', I, _, ?_, hm', h B' c' hB' (fun _ => hne) (fun hh => absurd hh hs)⟩
  simp only [execOp, resolve, List.map_toArray, List.map, he.eval hx, he.eval hy, pure_bind, invoke, builtin]
  exact Ag hr |>.trans rfl

theorem Mem.frozen {b m : Nat} {o : Obj} {w : World} (h : Mem I ((b, o) :: L) w) : Mem I L (w.freeze ⟨b, 0, none⟩ m) := by
 obtain ⟨h1, h2, h3⟩ := h
 have hb := h2 (b, o) (.head _)
 have hn : b ∉ L.map (·.1) ∧ (L.map (·.1)).Nodup := List.nodup_cons.1 h3
 unfold World.freeze
 split
 ·exact ⟨h1, fun p hp => h2 p (.tail _ hp), hn.2⟩
 ·refine ⟨⟨fun c u hc => ?_, h1.2⟩, fun p hp => ⟨?_, (h2 p (.tail _ hp)).2⟩, hn.2⟩
  ·have hne : b ≠ c := fun e => by subst e; rw [hb.2] at hc; cases hc
   simp only [Array.getElem?_modify, if_neg hne]
   exact h1.1 c u hc
  ·have hne : b ≠ p.1 := fun e => hn.1 (e ▸ List.mem_map.2 ⟨p, hp, rfl⟩)
   simp only [Array.getElem?_modify, if_neg hne]
   exact (h2 p (.tail _ hp)).1


theorem Wn {S : World → Prop} {x : Operand} {a : Addr} {m c : Nat} {tys : Array TypeId} (hx : Ch E x = some (.slice (some a) m c)) (hc : c ≠ 0) :
  Hf P E S ⟨some d, .call ⟨.builtin .unsafeSliceData, #[x], tys⟩, ty, pos, af, g⟩ (.pointer (some a)) := fun ac w he _ => by
 simp only [execOp, resolve, List.map_toArray, List.map, he.eval hx, pure_bind, invoke, builtin]
 exact Ag (Lib.run_unsafeSliceData_row w _ _ _ _ _ hc) |>.trans rfl
theorem Up {S : World → Prop} {x : Operand} {m c : Nat} {tys : Array TypeId} (hx : Ch E x = some (.slice none m c)) :
  Hf P E S ⟨some d, .call ⟨.builtin .unsafeSliceData, #[x], tys⟩, ty, pos, af, g⟩ (.pointer none) := fun ac w he _ => by
 simp only [execOp, resolve, List.map_toArray, List.map, he.eval hx, pure_bind, invoke, builtin]
 exact Ag (Lib.run_unsafeSliceData_nil w _ _ _ _) |>.trans rfl
theorem P7 {S : World → Prop} {x y : Operand} {pt it : TypeId} {oa : Option Addr} (hx : Ch E x = some (.pointer oa)) (hy : Ch E y = some (.int .i64 0)) :
  Hf P E S ⟨some d, .call ⟨.builtin .unsafeString, #[x, y], #[pt, it]⟩, ty, pos, af, g⟩ (.string (str [])) := fun ac w he _ => by
 simp only [execOp, resolve, List.map_toArray, List.map, he.eval hx, he.eval hy, pure_bind, invoke, builtin]
 exact Ag (Lib.run_unsafeString_none w _ _ _ _) |>.trans rfl
theorem Qm {S : World → Prop} {fuel : Nat} {listed listed' : Array Bool} (i : Nat) {x y : Operand} {pt it e sz bb : Nat} {z : List Value} [ht : Ax P pt (.pointer e) sz bb z] {b : Nat} {xs : List UInt8} {sp : List Value} {fr : Nat × Nat} {L₀ : Bm}
  (hi : ops[i]? = some ⟨some d, .call ⟨.builtin .unsafeString, #[x, y], #[pt, it]⟩, ty, pos, af, g⟩) (hc : decide (Region.ready .any ops listed = [i]) = true) (hl : listed' = listed.setIfInBounds i true)
  (hx : Ch E x = some (.pointer (some ⟨b, 0, none⟩))) (hy : Ch E y = some (.int .i64 (xs.length : Nat))) (he1 : P.cellsOf e = 1) (h0 : xs ≠ []) (hlen : xs.length ≤ 4294967296)
  (hL : ∀ w, Mem I L w → Mem I ((b, .cells (xs.map bv ++ sp).toArray e fr) :: L₀) w) (hS : Fa ops listed' = true ∨ ∀ w, Mem I L₀ w → S w) (hg : Wants ops E g) (hdn : Nat.blt d n = true)
  (h : Cy P f n I₀ Q ops S fuel listed' k ((d, .string (str xs)) :: E) I L₀) : Cy P f n I₀ Q ops S (fuel + 1) listed k E I L := by
 refine Nm i hi hc hl rfl hdn (fun a he => hg.wanted a he) fun a w he hm => ?_
 have hm' := hL w hm
 have hb := (hm'.2.1 _ (.head _)).1
 refine ⟨_, _, I, L₀, ?_, hm'.frozen (m := xs.length), hS, h⟩
 simp only [execOp, resolve, List.map_toArray, List.map, he.eval hx, he.eval hy, pure_bind, invoke, builtin]
 refine Ag (Lib.run_unsafeString_row w pt it ty e ht.und he1 b _ (Pi (.head _) hm') xs h0 Af Ab ?_) |>.trans rfl
 intro j c hj; rw [Ni hb]
 have hjl : j < xs.length := by
  rcases Nat.lt_or_ge j xs.length with gg | gg
  ·exact gg
  ·simp [List.getElem?_eq_none gg] at hj
 simp only [Nat.zero_add, List.getElem?_toArray]
 rw [List.getElem?_append_left (by simpa using hjl), List.getElem?_map, hj]
 rfl

theorem Og {m c : Nat} {B : K1} : Fw (Ci m c B) = some [Ci m c B] := by cases B <;> rfl

end rules
theorem Mem.bl1 {I : Heap} {a p : Nat × Obj} {X L : Bm} {w : World} (h : Mem I (a :: p :: (X ++ L)) w) : Mem I (p :: (X ++ a :: L)) w := h.f1.perm (List.Perm.cons _ (List.perm_append_comm_assoc [a] X L))
theorem Mem.br1 {I : Heap} {a p : Nat × Obj} {X L : Bm} {w : World} (h : Mem I (p :: (X ++ a :: L)) w) : Mem I (a :: p :: (X ++ L)) w :=
 (h.perm (List.Perm.cons _ (List.perm_append_comm_assoc [a] X L).symm)).f1
def Z0 (xs : Au) (B : K1) (c : Nat) : Prop := E6 1 xs.length c (xs.map bv) B ∧ (B = none ∨ xs ≠ [])
def S8 (b : Nat) (pre : Bool) (xs : Au) (B : K1) (c : Nat) (L : Bm) : Bm :=
 (b, .cells [.pointer (bif pre then some ⟨b, 0, none⟩ else none), Ci xs.length c B].toArray 60 (0, 0)) :: (Cn 5 (xs.map bv) B ++ L)

theorem Gp (b : Nat) (pre : Bool) (v2 : Value) (I : Heap) (L : Bm) : Fun Tryz.prog 137 [.pointer (some ⟨b, 0, none⟩)] I
  ((b, .cells [.pointer (bif pre then some ⟨b, 0, none⟩ else none), v2].toArray 60 (0, 0)) :: L)
  (fun v I' L' => v = .tuple #[] ∧ I = I' ∧ L' = (b, .cells [.pointer (some ⟨b, 0, none⟩), v2].toArray 60 (0, 0)) :: L) := by
 cases pre with
 | true =>
  refine Ap Af ?_; refine Se rfl (Om rfl ?_); refine Az rfl .free rfl ?_
  first | refine Oh rfl ?_ | refine Oj rfl ?_
  refine Cz rfl .free rfl ?_; refine Vv rfl rfl .free rfl ?_; refine Aa ?_
  first | refine Sf rfl Af ?_ | refine As Ai ?_
  refine Se rfl (Om rfl ?_); refine Az rfl .free rfl ?_
  first | refine Oh rfl ?_ | refine Oj rfl ?_
  refine Cz rfl .free rfl ?_; refine Om rfl ?_; refine Zp rfl rfl .free rfl ?_; refine Aa ?_
  first | refine Sf rfl Af ?_ | refine As Ai ?_
  refine Aj ?_; refine Kg .nil ?_
  exact ⟨I, _, .refl _, fun _ h => h, rfl, rfl, rfl⟩
 | false =>
  refine Ap Af ?_; refine Se rfl (Om rfl ?_); refine Az rfl .free rfl ?_
  first | refine Oh rfl ?_ | refine Oj rfl ?_
  refine Cz rfl .free rfl ?_; refine Vv rfl rfl .free rfl ?_; refine Aa ?_
  first | refine St rfl Af ?_ | refine Bo Ai ?_
  refine Al rfl (Om rfl (Om rfl ?_)); refine Xn rfl (.head _) Ad Af .free rfl ?_; refine Abn (fn := Tryz.f177) (e := Extern.AbiNoEscape.same) Tryz.func177 Ac Ac Ac Ac (fun w => Lib.run_noEscape w _) rfl .free rfl ?_; refine T4 rfl (.head _) Ac .free rfl ?_; refine Az rfl .free rfl ?_
  first | refine Oh rfl ?_ | refine Oj rfl ?_
  refine Bu rfl rfl rfl rfl .free ?_; refine Aa ?_; refine Kg .nil ?_
  exact ⟨I, _, .refl _, fun _ h => h, rfl, rfl, rfl⟩

theorem C5 (b : Nat) (pre : Bool) (xs : Au) (B : K1) (c : Nat) (s : Au) (hB : Z0 xs B c) (hs : xs.length + s.length ≤ Be) (I : Heap) (L : Bm) :
  Fun Tryz.prog 89 [.pointer (some ⟨b, 0, none⟩), .string (str s)] I (S8 b pre xs B c L)
  (fun v I' L' => v = .tuple #[.int .i64 (s.length : Nat), .nilIface] ∧ I = I' ∧ ∃ B' c', Z0 (xs ++ s) B' c' ∧ L' = S8 b true (xs ++ s) B' c' L) := by
 unfold Be at hs
 refine Ap Af ?_; refine Se rfl (Oa rfl (Oa rfl (Aa (Se rfl (Om rfl ?_))))); refine Ca rfl (Gp b pre _ _ _) ?_; rintro _ _ _ _ ⟨rfl, rfl, rfl⟩; refine Aa (Se rfl (Om rfl (Om rfl ?_))); refine Az rfl .free rfl ?_
 first | refine Oh rfl ?_ | refine Oj rfl ?_
 refine Cz rfl .free rfl ?_; refine Om rfl ?_; refine Vt (B := B) (xs := xs.map bv) (s := s) (m := xs.length) (c := c) Ae rfl rfl hB.1 (fun _ h => h.u1) Ab Ad .free rfl ?_; intro B' c' hB' hne hsame; refine En (fun w h => h.perm (List.perm_middle (l₁ := Cn _ _ B'))) ?_; refine Az rfl .free rfl ?_
 first | refine Oh rfl ?_ | refine Oj rfl ?_
 refine T9 rfl rfl Og rfl (by first | rfl | (simp only [List.toList_toArray, List.all_cons, List.all_nil, Hc, Bool.and_true, Bool.true_and] <;> rfl)) (by first | exact u0 | exact u1 | exact u2 | exact u3 | exact u4 | exact u5 | exact u6) Ae .free ?_; refine Aa (Se rfl (Om rfl ?_)); refine C1 rfl .free rfl ?_; refine Oa rfl (Oa rfl (Aa ?_)); refine Ak (.tmp rfl (.tmp rfl .nil)) ?_; refine ⟨I, _, .refl _, fun _ h => h, rfl, rfl, B', c', ⟨by simpa using hB', ?_⟩, by simp [S8]⟩
 by_cases hs0 : s = []
 ·subst hs0; rw [hsame rfl]; simpa using hB.2
 ·exact .inr (by simp [hs0])
theorem Fk (b : Nat) (pre : Bool) (xs : Au) (B : K1) (c : Nat) (u : UInt8) (hB : Z0 xs B c) (hs : xs.length + 1 ≤ Be) (I : Heap) (L : Bm) :
  Fun Tryz.prog 143 [.pointer (some ⟨b, 0, none⟩), .int .u8 (u.toNat : Nat)] I (S8 b pre xs B c L)
  (fun v I' L' => v = .nilIface ∧ I = I' ∧ ∃ B' c', Z0 (xs ++ [u]) B' c' ∧ L' = S8 b true (xs ++ [u]) B' c' L) := by
 unfold Be at hs
 refine Ap Af ?_; refine Se rfl (Oa rfl (Aa (Se rfl (Om rfl ?_)))); refine Ca rfl (Gp b pre _ _ _) ?_; rintro _ _ _ _ ⟨rfl, rfl, rfl⟩; refine Aa (Se rfl (Om rfl (Om rfl ?_))); refine Az rfl .free rfl ?_
 first | refine Oh rfl ?_ | refine Oj rfl ?_
 refine Cz rfl .free rfl ?_; refine Om rfl ?_; refine Ol rfl rfl ?_; intro b13; refine Ea (B := B) (xs := xs.map bv) (ys := [bv u]) (m := xs.length) (c := c) Bl Ae rfl rfl hB.1 (fun _ h => h.u2) Ae (fun a ha => by cases ha; exact Cm (.head _) Ae) Af Ae Ad Ad Ab Ad .free rfl ?_; intro bb sp c' hB'; refine Az rfl .free rfl ?_
 first | refine Oh rfl ?_ | refine Oj rfl ?_
 refine Bu rfl rfl rfl rfl .free ?_; refine Aa (Se rfl (Oa rfl (Aa (Ak (.tmp rfl .nil) ?_)))); refine ⟨I, _, .refl _, fun w h => Mem.sub (L' := (b, _) :: (bb, _) :: L) Bz h.f2, rfl, rfl, some (bb, sp), c', ⟨by simpa using hB', .inr Af⟩, by simp [S8, Cn, Ci]⟩
theorem Hb (b : Nat) (pre : Bool) (xs : Au) (B : K1) (c : Nat) (hB : Z0 xs B c) (hs : xs.length ≤ Be) (I : Heap) (L : Bm) :
  Fun Tryz.prog 46 [.pointer (some ⟨b, 0, none⟩)] I (S8 b pre xs B c L) (Ef (.string (str xs)) I L) := by
 unfold Be at hs
 cases B with
 | none =>
  obtain ⟨⟨h1, h2, h3⟩, _⟩ := hB; obtain rfl : xs = [] := by simpa using h1
  refine Ap Af ?_; refine Se rfl (Oa rfl (Aa (Ah ?_))); refine D6 12 rfl rfl ?_; refine Da 0 rfl (Am rfl) ?_; refine Da 1 rfl (D4 rfl) ?_
  first | refine Da 2 rfl (Ao rfl) ?_ | refine Da 2 rfl (Bf rfl) ?_
  refine Dt 3 [12] rfl (Pn rfl) ?_; refine Da 4 rfl (Up rfl) ?_; refine Da 5 rfl (Am rfl) ?_; refine Da 6 rfl (D4 rfl) ?_
  first | refine Da 7 rfl (Ao rfl) ?_ | refine Da 7 rfl (Bf rfl) ?_
  refine Dt 8 [12] rfl (Pn rfl) ?_; refine Da 9 rfl (Gb rfl) ?_; refine Da 10 rfl (P7 rfl rfl) ?_; refine Da 11 rfl (A5 rfl) ?_; refine Aw Ac ?_; refine Ak (.tmp rfl .nil) ?_; refine only rfl ?_
  simp [Dl, *]
 | some p =>
  obtain ⟨bb, sp⟩ := p
  have hne : xs ≠ [] := by rcases hB.2 with h | h <;> simp_all
  have hpos := List.length_pos_iff.2 hne
  have hc := hB.1.2.1
  refine Ap Af ?_; refine Se rfl (Oa rfl (Aa (Ah ?_)))
  simp only [S8, Cn, List.cons_append, List.nil_append]
  refine Tf I ((b, .cells [.pointer (bif pre then some ⟨b, 0, none⟩ else none), Ci xs.length c (some (bb, sp))].toArray 60 (0, 0)) :: L) 12 rfl rfl ?_; refine Da 0 rfl (Am rfl) ?_; refine Da 1 rfl (D4 rfl) ?_
  first | refine Da 2 rfl (Ao rfl) ?_ | refine Da 2 rfl (Bf rfl) ?_
  refine Dt 3 [12] rfl (Pn rfl) ?_; refine Da 4 rfl (Wn rfl Ab) ?_; refine Da 5 rfl (Am rfl) ?_; refine Da 6 rfl (D4 rfl) ?_
  first | refine Da 7 rfl (Ao rfl) ?_ | refine Da 7 rfl (Bf rfl) ?_
  refine Dt 8 [12] rfl (Pn rfl) ?_; refine Da 9 rfl (Gb rfl) ?_; refine Qm 10 rfl Ac rfl rfl rfl Ac hne Ab (fun _ h => h.f1) (.inr At) .free rfl ?_; refine Da 11 rfl (A5 rfl) ?_; refine Aw Ac ?_; refine Ak (.tmp rfl .nil) ?_; refine only rfl ?_
  simp [Dl, *]
structure WS where
 i : Nat
 pre : Bool
 B : K1
 c : Nat
theorem Sm (ps : List Tree) (i : Nat) : (G6 (ps.take i)).length ≤ (G6 ps).length := by
 rcases Nat.le_total ps.length i with h | h
 ·rw [List.take_of_length_le h]; exact Nat.le_refl _
 ·cases ps with
  | nil => simp
  | cons t ts =>
   cases i with
   | zero => simp [G6]
   | succ i =>
    have := Li (ts.take i) (ts.drop i)
    rw [List.take_append_drop] at this
    simp [G6, this]
theorem Tr : ∀ (n : Nat) {I : Heap} {t : Tree} {cs : List Value} (_ : SizeOf.sizeOf t < n) (_ : Rep I t cs) (b : Nat) (pre : Bool) (xs : Au) (B : K1) (c : Nat) (_ : Z0 xs B c) (_ : xs.length + t.text.length ≤ Be) (L : Bm),
  Fun Tryz.prog 93 [.agg cs.toArray, .pointer (some ⟨b, 0, none⟩)] I (S8 b pre xs B c L)
  (fun v I' L' => v = .tuple #[] ∧ I = I' ∧ ∃ B' c', Z0 (xs ++ t.text) B' c' ∧ L' = S8 b true (xs ++ t.text) B' c' L) := by
 intro n
 induction n with
 | zero => intro I t cs h; omega
 | succ n ihn =>
  intro I t cs hlt h b pre xs B c hB hz L; obtain ⟨oa, cc, vs, rfl, hl, hs, hn, hc, ha, hp⟩ := h.open
  unfold Be at hp
  refine Ap Af ?_; refine Se rfl ?_; refine Cg rfl rfl .free rfl ?_; intro b2; refine Aa (Ah (Se rfl ?_)); refine Cz rfl .free rfl ?_; refine Ca rfl (B8 h _) ?_; rintro _ _ _ _ ⟨rfl, rfl, rfl⟩; refine Aa ?_; refine Si rfl ?_ ?_
  ·intro c0
   have hta := t.text_atom E9
   refine Se rfl (Om rfl ?_)
   first | refine Oh rfl ?_ | refine Oj rfl ?_
   refine Cz rfl .free rfl ?_; refine En (fun w h => Mem.bl1 h) ?_; refine Ca rfl (C5 b pre xs B c t.atom hB (by rw [← hta]; exact hz) _ _) ?_; rintro _ _ _ _ ⟨rfl, rfl, B1, c1, hB1, rfl⟩; refine Aa ?_; refine Ak .nil ?_
   exact ⟨I, _, .refl _, fun w h => (Mem.br1 h).drop, rfl, rfl, B1, c1, by rw [hta]; exact hB1, by rw [hta]; rfl⟩
  intro c0
  have hne : t.parts ≠ [] := by simpa using c0
  have htx := t.text_eq hne
  have hz' := hz
  rw [htx] at hz'
  simp only [List.length_append, List.length_cons, List.length_nil] at hz'
  refine Aj (Ah (Se rfl ?_))
  first | refine Oh rfl ?_ | refine Oj rfl ?_
  refine Cz rfl .free rfl ?_; refine On rfl (Om rfl (Aa (Aq ?_))); refine D7 (X := WS) (fun x => t.parts.length - x.i) (fun x => [(1, .pointer (some ⟨b, 0, none⟩)), (13, .slice oa t.parts.length cc), (14, .int .i64 (t.parts.length : Nat)), (15, .int .i64 (x.i : Nat))]) (fun _ => I) (fun x => S8 b x.pre (xs ++ G6 (t.parts.take x.i)) x.B x.c L)
   (fun x => x.i ≤ t.parts.length ∧ Z0 (xs ++ G6 (t.parts.take x.i)) x.B x.c ∧ (x.i = t.parts.length → x.pre = true)) ⟨0, pre, B, c⟩ ⟨by simp, by simpa [G6] using hB, fun hh => by simp only at hh; exact absurd (List.length_eq_zero_iff.1 hh.symm) hne⟩ ⟨rfl, rfl, rfl, rfl, trivial⟩ (fun w hh => by simpa [G6] using hh.drop) ?_
  rintro x ⟨hi, hxB, hxp⟩ ih; refine Se rfl (Oc rfl rfl rfl (Aa (Ah ?_))); refine Si rfl ?_ ?_
  ·intro c1; obtain ⟨x', hx, oa', c', hr, hst⟩ := Rep.at hl hs hn x.i Ab
   have htk := Q8 t.parts x.i Ab
   have hlk := Sm t.parts (x.i + 1)
   rw [htk] at hlk
   simp only [List.length_append, List.length_cons] at hlk
   refine Aj (Ah (Aq (Se rfl (Om rfl ?_)))); refine Cv rfl rfl _ rfl B7 Dv .free rfl ?_; refine Cz rfl .free rfl ?_; refine A3 .free rfl ?_; intro b5; refine Oa rfl ?_; refine Bu rfl rfl rfl rfl .free ?_; refine Aa (Ah (Se rfl (Om rfl (Oc rfl rfl rfl (Aa ?_))))); refine Si rfl ?_ ?_
   ·intro c2; refine Al rfl (Om rfl ?_); refine En (fun w h => Mem.bl1 h) ?_; refine Ca rfl (Fk b x.pre _ x.B x.c 40 hxB (by rw [List.length_append]; unfold Be at *; omega) _ _) ?_; rintro _ _ _ _ ⟨rfl, rfl, B1, c1, hB1, rfl⟩
    have e : xs ++ G6 (t.parts.take (x.i + 1)) = xs ++ G6 (t.parts.take x.i) ++ [40] ++ t.parts[x.i].text := by rw [htk, if_pos Ab]; simp
    refine En (fun w h => Mem.br1 h) ?_; refine Aa (Al rfl ?_); refine Cz rfl .free rfl ?_; refine Om rfl ?_; refine En (fun w h => Mem.bl1 h) ?_; refine Ca rfl (ihn (by have := t.part_lt x.i Ab; omega) hr b true _ B1 c1 hB1 (by simp only [List.length_append, List.length_cons, List.length_nil]; unfold Be at *; omega) _) ?_; rintro _ _ _ _ ⟨rfl, rfl, B2, c2', hB2, rfl⟩; refine En (fun w h => (Mem.br1 h).drop) ?_; refine Aa (Ar (Al rfl ?_)); refine Or rfl rfl rfl ?_; refine Om rfl (Aa ?_)
    refine Bk (fun w hh => ?_) (Bw (E' := [(1, .pointer (some ⟨b, 0, none⟩)), (13, .slice oa t.parts.length cc), (14, .int .i64 (t.parts.length : Nat)), (15, .int .i64 ((x.i + 1 : Nat)))]) ⟨rfl, rfl, rfl, rfl, trivial⟩ (ih ⟨x.i + 1, true, B2, c2'⟩ ⟨by simp only; omega, by simp only; rw [e]; exact hB2, fun _ => rfl⟩ D1))
    simp only; rw [e]; exact hh
   intro c2; refine Al rfl (Om rfl ?_); refine En (fun w h => Mem.bl1 h) ?_; refine Ca rfl (Fk b x.pre _ x.B x.c 32 hxB (by rw [List.length_append]; unfold Be at *; omega) _ _) ?_; rintro _ _ _ _ ⟨rfl, rfl, B1, c1, hB1, rfl⟩
   have e : xs ++ G6 (t.parts.take (x.i + 1)) = xs ++ G6 (t.parts.take x.i) ++ [32] ++ t.parts[x.i].text := by rw [htk, if_neg Ab]; simp
   refine En (fun w h => Mem.br1 h) ?_; refine Aa (Al rfl ?_); refine Cz rfl .free rfl ?_; refine Om rfl ?_; refine En (fun w h => Mem.bl1 h) ?_; refine Ca rfl (ihn (by have := t.part_lt x.i Ab; omega) hr b true _ B1 c1 hB1 (by simp only [List.length_append, List.length_cons, List.length_nil]; unfold Be at *; omega) _) ?_; rintro _ _ _ _ ⟨rfl, rfl, B2, c2', hB2, rfl⟩; refine En (fun w h => (Mem.br1 h).drop) ?_; refine Aa (Ar (Al rfl ?_)); refine Or rfl rfl rfl ?_; refine Om rfl (Aa ?_)
   refine Bk (fun w hh => ?_) (Bw (E' := [(1, .pointer (some ⟨b, 0, none⟩)), (13, .slice oa t.parts.length cc), (14, .int .i64 (t.parts.length : Nat)), (15, .int .i64 ((x.i + 1 : Nat)))]) ⟨rfl, rfl, rfl, rfl, trivial⟩ (ih ⟨x.i + 1, true, B2, c2'⟩ ⟨by simp only; omega, by simp only; rw [e]; exact hB2, fun _ => rfl⟩ D1))
   simp only; rw [e]; exact hh
  intro c1
  have hxi : x.i = t.parts.length := by omega
  rw [hxi, List.take_length] at hxB; refine Cd rfl ?_; rw [hxi, List.take_length]; refine Al rfl (Om rfl ?_); refine Ca rfl (Fk b x.pre _ x.B x.c 41 hxB (by rw [List.length_append]; unfold Be at *; omega) _ _) ?_; rintro _ _ _ _ ⟨rfl, rfl, B1, c1, hB1, rfl⟩; refine Aa ?_; refine Kg .nil ?_; refine ⟨I, _, .refl _, fun w h => h, rfl, rfl, B1, c1, ?_, ?_⟩
  ·rw [htx, ← List.append_assoc]; exact hB1
  ·rw [htx, ← List.append_assoc]

theorem Lr {I : Heap} {t : Tree} {cs : List Value} (h : Rep I t cs) (hz : t.text.length ≤ Be) (L : Bm) : Fun Tryz.prog 49 [.agg cs.toArray] I L (Ef (.string (str t.text)) I L) := by
 obtain ⟨oa, c, vs, rfl, hl, hs, hn, hc, ha, hp⟩ := h.open; refine Ap Af ?_; refine Se rfl ?_; refine Cg rfl rfl .free rfl ?_; intro b1; refine Oa rfl (Aa (Se rfl ?_)); refine A3 .free rfl ?_; intro b3; refine Aa (Se rfl ?_); refine Cz rfl .free rfl ?_; refine En (fun w hh => Mem.f1 hh) ?_; refine En (L' := S8 b3 false [] none 0 _) (fun w hh => Mem.f1 hh) ?_; refine Ca rfl (Tr _ (Nat.lt_succ_self _) h b3 false [] none 0 ⟨⟨rfl, rfl, rfl⟩, .inl rfl⟩ (by simpa using hz) _) ?_; rintro _ _ _ _ ⟨rfl, rfl, B1, c1, hB1, rfl⟩; refine Aa (Se rfl ?_)
 refine Ca rfl (Hb b3 true _ B1 c1 hB1 (by simpa using hz) _ _) ?_; rintro _ _ _ _ ⟨rfl, rfl, rfl⟩; refine Oa rfl (Aa (Ak (.tmp rfl .nil) ?_)); refine only rfl ?_
 simp [Dl, *]
def sv (s : Au) : Value := .string (str s)
structure Strs (I : Heap) (oa : Option Addr) (l : List Au) (c : Nat) : Prop where
 still : ∀ x, oa = some x → Still I x (l.map sv)
 nil : oa = none → l = []
 cap : l.length ≤ c
 len : l.length ≤ Be
 each : ∀ s ∈ l, s.length ≤ Be
theorem Strs.mono {I I' : Heap} {oa : Option Addr} {l : List Au} {c : Nat} (hle : HLe I I') (h : Strs I oa l c) : Strs I' oa l c :=
 ⟨fun x hx => (h.still x hx).mono hle, h.nil, h.cap, h.len, h.each⟩
theorem Strs.at {I : Heap} {oa : Option Addr} {l : List Au} {c : Nat} (h : Strs I oa l c) (i : Nat) (hi : i < l.length) : ∃ x, oa = some x ∧ Still I (x.add (i * 1)) [.string (str l[i])] := by
 cases oa with
 | none => have := h.nil rfl; subst this; simp at hi
 | some x =>
  refine ⟨x, rfl, (h.still x rfl).part (i * 1) ?_⟩; intro j hj; obtain rfl : j = 0 := by simpa using hj
  simp [hi, sv]

def Hk (l : List Au) (s : Au) : Nat → Option Nat
 | 0 => none
 | n + 1 => if l.getD n [] = s then some n else Hk l s n
def De (l : List Au) (s : Au) : Option Nat := Hk l s l.length
theorem O5 {l : List Au} {s : Au} : ∀ {n i : Nat}, Hk l s n = some i → i < n ∧ l.getD i [] = s := by
 intro n
 induction n with
 | zero => intro i h; simp [Hk] at h
 | succ n ih =>
  intro i h
  simp only [Hk] at h
  split at h
  ·simp at h; subst h; exact ⟨by omega, by assumption⟩
  ·have := ih h; exact ⟨by omega, this.2⟩
def Ae4 : Option Nat → Int
 | some i => i
 | none => -1

def T0 (names types : List Au) (s : Au) : Au := match De names s with
 | some i => types.getD i []
 | none => []
theorem Aaw {I : Heap} {oa ob : Option Addr} {l m : List Au} {c c' : Nat} (h : Strs I oa l c) (h' : Strs I ob m c') (hlm : l.length = m.length) (s : Au) (L : Bm) :
  Fun Tryz.prog 194 [.slice oa l.length c, .slice ob m.length c', .string (str s)] I L (Ef (.string (str (T0 l m s))) I L) := by
 have hlen := h.len
 unfold Be at hlen
 refine Ap Af ?_; refine Se rfl (Oa rfl (Aa (Ah (Se rfl (Om rfl (On rfl ?_)))))); refine Or rfl rfl rfl ?_; refine Oa rfl (Aa (Aq ?_)); refine D7 (X := Nat) (fun n => n) (fun n => [(0, .slice oa l.length c), (1, .slice ob m.length c'), (2, .string (str s)), (7, .int .i64 ((n : Int) - 1))]) (fun _ => I) (fun _ => L) (fun n => n ≤ l.length ∧ De l s = Hk l s n) l.length ⟨Nat.le_refl _, rfl⟩ ⟨rfl, rfl, rfl, rfl, trivial⟩ Bt ?_; rintro n ⟨hn, hl⟩ ih; refine Ah (Se rfl (Om rfl (Oc rfl rfl rfl (Aa ?_)))); refine Si rfl ?_ ?_
 ·intro c0; obtain ⟨k, rfl⟩ : ∃ k, n = k + 1 := ⟨n - 1, by omega⟩; obtain ⟨x, hx, hst⟩ := h.at k Ab; obtain ⟨y, hy, hst'⟩ := h'.at k Ab; refine Lk (t := 7) (v' := .int .i64 (k : Nat)) rfl Eg ?_
  simp only [Hk, List.getD_eq_getElem?_getD, List.getElem?_eq_getElem (show k < l.length by omega), Option.getD_some] at hl
  refine Aj (Ah (Aq (Se rfl (Om rfl (Om rfl ?_))))); refine Cv rfl rfl _ rfl B7 Dv .free rfl ?_; refine Cz rfl .free rfl ?_; refine Om rfl (Od rfl rfl rfl (Aa ?_)); refine Si rfl ?_ ?_
  ·intro c1; refine Se rfl (Om rfl (Om rfl ?_)); refine Cv rfl rfl _ rfl B7 Dv .free rfl ?_; refine Cz rfl .free rfl ?_; refine Oa rfl (Aa (Ak (.tmp rfl .nil) ?_)); refine only rfl ?_; rw [if_pos Dw] at hl
   simp only [T0, hl]; simp [Dl, show k < m.length by omega]
  intro c1; refine Aj (Ar (Al rfl (Om rfl ?_))); refine Or rfl rfl rfl ?_; refine Oa rfl (Aa ?_); refine Bw (E' := [(0, .slice oa l.length c), (1, .slice ob m.length c'), (2, .string (str s)), (7, .int .i64 ((k : Int) - 1))]) ⟨rfl, rfl, rfl, rfl, trivial⟩ (ih k ⟨by omega, ?_⟩ Ab); rw [hl, if_neg Dw]
 intro c0; refine Cd rfl ?_; refine Se rfl (Oa rfl (Aa (Ak (.tmp rfl .nil) ?_))); refine only rfl ?_; obtain rfl : n = 0 := by omega
 simp only [T0, hl, Hk]; rfl

def Ya (names types : List Au) : Bool := decide (names.length ≤ 8) && decide (names.length = types.length) && names.all Cb && types.all fun s => (Iz s).isSome
structure ES where
 I : Heap
 i : Nat
 ts : List Tree
 B : K1
 c : Nat
 xs : List Value
structure Afe (I : Heap) (l m : List Au) (x : ES) : Prop where
 hle : HLe I x.I
 hrl : RepL x.I x.ts x.xs
 hB : E6 2 x.i x.c x.xs x.B
 hlen : x.i = x.ts.length
 hi : x.i ≤ m.length
 hts : (m.take x.i).map Iz = x.ts.map some
 hall : (l.take x.i).all Cb = true

def RE (oa : Option Addr) (l m : List Au) (c : Nat) (L : Bm) : C2 := fun v I' L' => ∃ oa' n c2 ob' ts c3, v = .tuple #[.agg [.slice oa' n c2, .slice ob' (List.length ts) c3].toArray, .bool (Ya l m)] ∧ L = L' ∧
 Rep I' (.node [] ts) [.string (str []), .slice ob' ts.length c3] ∧ (Ya l m = true → oa' = oa ∧ n = l.length ∧ c2 = c ∧ m.map Iz = ts.map some)
def LK (o : Option Nat) (ts : List Tree) (I : Heap) (L : Bm) : C2 := fun v I' L' => ∃ t cs ok, v = .tuple #[.agg cs.toArray, .bool ok] ∧ I = I' ∧ L = L' ∧ Rep I t cs ∧ ok = o.isSome ∧ ∀ i, o = some i → ts[i]? = some t
def Aes (l m : List Au) (s : Au) : Option Au := bif Ya l m then (De l s).map fun i => m.getD i [] else none
def EL (o : Option Au) (L : Bm) : C2 := fun v I' L' => v = .tuple #[.string (str (o.getD [])), .bool o.isSome] ∧ L = L'
section rules
variable {P : Program} {f : FuncId} {n : Nat} {I₀ : Heap} {Q : C2} {k : List Item} {E : He} {I : Heap} {L : Bm}
variable {ops : Array Oper} {d : Nat} {ty : TypeId} {pos : String} {af : Array Edge} {g : Option (Nat × Bool)} {l : List Oper}

theorem Pf {op : BinOp} {T : TypeId} {x y : Operand} {a b : Bool} (w : World) : (eqGuard op T x y (.bool a) (.bool b)).run P w = .ok () w := by
 unfold eqGuard; split <;> rfl
def Ta : BinOp → Bool → Bool → Option Bool
 | .eql, a, b => some (a == b)
 | .neq, a, b => some (!(a == b))
 | _, _, _ => none
theorem Ad8 {S : World → Prop} {op : BinOp} {T T' sz bb : Nat} {z : List Value} [ht : Ax P T .bool sz bb z] {x y : Operand} {a b r : Bool} (hx : Ch E x = some (.bool a)) (hy : Ch E y = some (.bool b)) (hr : Ta op a b = some r) :
  Hf P E S ⟨some d, .binOp op T x y T', ty, pos, af, g⟩ (.bool r) := fun ac w he _ => by
 simp only [execOp, he.eval hx, he.eval hy]
 refine Ag (a := _) (w' := w) ?_ |>.trans rfl
 rw [Ag (Pf w)]
 have h : ∀ d : Nat, (Op.equalIn (d + 1) T (.bool a) (.bool b)).run P w = .ok (a == b) w := fun d => by
  unfold Op.equalIn
  rw [Ag (A9 ht.und w)]
  rfl
 cases op <;> simp only [Ta, Option.some.injEq, reduceCtorEq] at hr
 ·subst hr
  simp only [binOp, Op.equal]
  exact Ag (h 9999) |>.trans rfl
 ·subst hr
  simp only [binOp, Op.equal]
  exact Ag (h 9999) |>.trans rfl
theorem Abl {op : BinOp} {T T' sz bb : Nat} {z : List Value} [ht : Ax P T .bool sz bb z] {x y : Operand} {a b r : Bool} (hx : Ch E x = some (.bool a)) (hy : Ch E y = some (.bool b)) (hr : Ta op a b = some r) (hg : Wants ops E g) (hdn : Nat.blt d n = true)
  (h : A6 P f n I₀ Q ops l k ((d, .bool r) :: E) I L) : A6 P f n I₀ Q ops (⟨some d, .binOp op T x y T', ty, pos, af, g⟩ :: l) k E I L := D8 (Ad8 hx hy hr) hg hdn h

theorem H3 {S : World → Prop} {T e : TypeId} {sz bb esz ebb : Nat} {z ez : List Value} {dd : TypeDesc} [ht : Ax P T (.slice e) sz bb z] [hte : Ax P e dd esz ebb ez] {x y : Operand} {oa : Option Addr} {ad : Addr} {m c : Nat} {i : Int}
  (hx : Ch E x = some (.slice oa m c)) (hy : Ch E y = some (.int .i64 i)) (i' : Nat) (hi : i = i') (him : i' < m) (hoa : oa = some ad) : Hf P E S ⟨some d, .indexAddr T x y, ty, pos, af, g⟩ (.pointer (some (ad.add (i' * esz)))) :=
 P4 (hoa ▸ hx) hy i' hi him

end rules
structure Raw (I : Heap) (oa : Option Addr) (l : List Au) (c : Nat) : Prop where
 still : ∀ x, oa = some x → Still I x (l.map sv)
 nil : oa = none → l = []
 cap : l.length ≤ c
 len : l.length ≤ 9223372036854775807
 each : ∀ s ∈ l, s.length ≤ 9223372036854775807
theorem Raw.at {I : Heap} {oa : Option Addr} {l : List Au} {c : Nat} (h : Raw I oa l c) (i : Nat) (hi : i < l.length) : ∃ x, oa = some x ∧ Still I (x.add (i * 1)) [.string (str l[i])] := by
 cases oa with
 | none => have := h.nil rfl; subst this; simp at hi
 | some x =>
  refine ⟨x, rfl, (h.still x rfl).part (i * 1) ?_⟩; intro j hj; obtain rfl : j = 0 := by simpa using hj
  simp [hi, sv]

def SZ (left : Nat) (l : List Au) (I : Heap) (L : Bm) : C2 := fun v I' L' => ∃ r : Int, v = .int .i64 r ∧ I = I' ∧ L = L' ∧ r ≤ left ∧ (0 ≤ r → l.length ≤ left ∧ ∀ s ∈ l, s.length ≤ left)
def TS (l : List Au) (L : Bm) : C2 := fun v I' L' => ∃ x, v = .slice (some x) l.length l.length ∧ Strs I' (some x) l l.length ∧ L = L'
section rules
variable {P : Program} {f : FuncId} {n : Nat} {I₀ : Heap} {Q : C2} {k : List Item} {E : He} {I : Heap} {L : Bm}
variable {ops : Array Oper} {d : Nat} {ty : TypeId} {pos : String} {af : Array Edge} {g : Option (Nat × Bool)} {l : List Oper}

theorem Yg {S : World → Prop} {T T' : TypeId} {x y : Operand} {a b : Nat} (hx : Ch E x = some (.int .i64 (a : Nat))) (hy : Ch E y = some (.int .i64 (b : Nat))) (hb : 0 < b) :
  Hf P E S ⟨some d, .binOp .rem T x y T', ty, pos, af, g⟩ (.int .i64 ((a % b : Nat))) := fun ac w he _ => by
 simp only [execOp, he.eval hx, he.eval hy]
 refine Ag (a := _) (w' := w) ?_ |>.trans rfl
 rw [Ag (Fd w)]
 have h0 : ¬ ((b : Int) = 0) := by omega
 have h1 : ((a : Int).tmod (b : Int)) = ((a % b : Nat) : Int) := by rw [Int.ofNat_tmod]
 simp only [binOp, Op.intDiv, if_neg h0, h1, ne_eq, not_true_eq_false, if_false]; rfl
theorem Adg {T T' : TypeId} {x y : Operand} {a b : Nat} (hx : Ch E x = some (.int .i64 (a : Nat))) (hy : Ch E y = some (.int .i64 (b : Nat))) (hb : 0 < b) (hg : Wants ops E g) (hdn : Nat.blt d n = true)
  (h : A6 P f n I₀ Q ops l k ((d, .int .i64 ((a % b : Nat))) :: E) I L) : A6 P f n I₀ Q ops (⟨some d, .binOp .rem T x y T', ty, pos, af, g⟩ :: l) k E I L := D8 (Yg hx hy hb) hg hdn h
theorem Ab7 {S : World → Prop} {T T' : TypeId} {x y : Operand} {a b : Nat} (hx : Ch E x = some (.int .i64 (a : Nat))) (hy : Ch E y = some (.int .i64 (b : Nat))) (hb : 0 < b) (ha : a ≤ 9223372036854775807) :
  Hf P E S ⟨some d, .binOp .quo T x y T', ty, pos, af, g⟩ (.int .i64 ((a / b : Nat))) := fun ac w he _ => by
 simp only [execOp, he.eval hx, he.eval hy]
 refine Ag (a := _) (w' := w) ?_ |>.trans rfl
 rw [Ag (Fd w)]
 have h0 : ¬ ((b : Int) = 0) := by omega
 have h1 : ((a : Int).tdiv (b : Int)) = ((a / b : Nat) : Int) := by rw [Int.ofNat_tdiv]
 have h2 : IntKind.i64.wrap ((a / b : Nat) : Int) = ((a / b : Nat) : Int) := by
  obtain ⟨q, hq, hle⟩ : ∃ q, q = a / b ∧ q ≤ a := ⟨_, rfl, Nat.div_le_self a b⟩; rw [← hq]; exact Oo Ab
 simp only [binOp, Op.intDiv, if_neg h0, h1, h2, ne_eq, not_true_eq_false, if_false]; rfl
theorem Abr {T T' : TypeId} {x y : Operand} {a b : Nat} (hx : Ch E x = some (.int .i64 (a : Nat))) (hy : Ch E y = some (.int .i64 (b : Nat))) (hb : 0 < b) (ha : a ≤ 9223372036854775807) (hg : Wants ops E g) (hdn : Nat.blt d n = true)
  (h : A6 P f n I₀ Q ops l k ((d, .int .i64 ((a / b : Nat))) :: E) I L) : A6 P f n I₀ Q ops (⟨some d, .binOp .quo T x y T', ty, pos, af, g⟩ :: l) k E I L := D8 (Ab7 hx hy hb ha) hg hdn h
theorem Aen {S : World → Prop} {T T' : TypeId} {x y : Operand} {a b : Nat} (hx : Ch E x = some (.int .i64 (a : Nat))) (hy : Ch E y = some (.int .i64 (b : Nat))) (ha : a ≤ 9223372036854775807) (hb : b ≤ 9223372036854775807) :
  Hf P E S ⟨some d, .binOp .xor T x y T', ty, pos, af, g⟩ (.int .i64 ((a ^^^ b : Nat))) := fun ac w he _ => by
 simp only [execOp, he.eval hx, he.eval hy]
 refine Ag (a := _) (w' := w) ?_ |>.trans rfl
 rw [Ag (Fd w)]
 have hn : ∀ c : Nat, c ≤ 9223372036854775807 → (BitVec.ofInt 64 (c : Int)).toNat = c := fun c hc => by
  rw [BitVec.ofInt_natCast, BitVec.toNat_ofNat]; exact Nat.mod_eq_of_lt (by omega)
 have hlt : a ^^^ b < 2 ^ 63 := Nat.xor_lt_two_pow (by omega) (by omega)
 have h1 : (BitVec.ofInt IntKind.i64.bits (a : Int) ^^^ BitVec.ofInt IntKind.i64.bits (b : Int)).toNat = a ^^^ b := by
  show (BitVec.ofInt 64 (a : Int) ^^^ BitVec.ofInt 64 (b : Int)).toNat = _
  rw [BitVec.toNat_xor, hn a ha, hn b hb]
 have h2 : IntKind.i64.wrap ((a ^^^ b : Nat) : Int) = ((a ^^^ b : Nat) : Int) := Oo Ab
 simp only [binOp, Op.intBits, h1, h2, ne_eq, not_true_eq_false, if_false]; rfl
theorem Aej {T T' : TypeId} {x y : Operand} {a b : Nat} (hx : Ch E x = some (.int .i64 (a : Nat))) (hy : Ch E y = some (.int .i64 (b : Nat))) (ha : a ≤ 9223372036854775807) (hb : b ≤ 9223372036854775807) (hg : Wants ops E g) (hdn : Nat.blt d n = true)
  (h : A6 P f n I₀ Q ops l k ((d, .int .i64 ((a ^^^ b : Nat))) :: E) I L) : A6 P f n I₀ Q ops (⟨some d, .binOp .xor T x y T', ty, pos, af, g⟩ :: l) k E I L := D8 (Aen hx hy ha hb) hg hdn h

theorem Pm {S : World → Prop} {src dst sz bb sz2 bb2 : Nat} {z z2 : List Value} [hs : Ax P src (.int .u8) sz bb z] [hd : Ax P dst (.int .i64) sz2 bb2 z2] {x : Operand} {a : Nat} (hx : Ch E x = some (.int .u8 (a : Nat))) (ha : a < 256) :
  Hf P E S ⟨some d, .convert src dst x, ty, pos, af, g⟩ (.int .i64 (a : Nat)) := fun ac w he _ => by
 simp only [execOp, he.eval hx]
 refine Ag (a := .int .i64 (a : Nat)) (w' := w) ?_ |>.trans rfl
 unfold convert
 rw [Ag (A9 hs.und w), Ag (A9 hd.und w)]
 simp only [Conv.intToInt]
 rw [Oo (by omega)]
 rfl
theorem Mj {src dst sz bb sz2 bb2 : Nat} {z z2 : List Value} [hs : Ax P src (.int .u8) sz bb z] [hd : Ax P dst (.int .i64) sz2 bb2 z2] {x : Operand} {a : Nat} (hx : Ch E x = some (.int .u8 (a : Nat))) (ha : a < 256) (hg : Wants ops E g) (hdn : Nat.blt d n = true)
  (h : A6 P f n I₀ Q ops l k ((d, .int .i64 (a : Nat)) :: E) I L) : A6 P f n I₀ Q ops (⟨some d, .convert src dst x, ty, pos, af, g⟩ :: l) k E I L := D8 (Pm hx ha) hg hdn h
end rules

structure Bytes (I : Heap) (oa : Option Addr) (l : List UInt8) (c : Nat) : Prop where
 still : ∀ x, oa = some x → Still I x (l.map bv)
 nil : oa = none → l = []
 cap : l.length ≤ c
 len : l.length ≤ 9223372036854775807
theorem Bytes.mono {I I' : Heap} {oa : Option Addr} {l : List UInt8} {c : Nat} (hle : HLe I I') (h : Bytes I oa l c) : Bytes I' oa l c :=
 ⟨fun x hx => (h.still x hx).mono hle, h.nil, h.cap, h.len⟩
theorem Bytes.at {I : Heap} {oa : Option Addr} {l : List UInt8} {c : Nat} (h : Bytes I oa l c) (i : Nat) (hi : i < l.length) : ∃ x, oa = some x ∧ Still I (x.add (i * 1)) [.int .u8 (l[i].toNat : Nat)] := by
 cases oa with
 | none => have := h.nil rfl; subst this; simp at hi
 | some x =>
  refine ⟨x, rfl, (h.still x rfl).part (i * 1) ?_⟩; intro j hj; obtain rfl : j = 0 := by simpa using hj
  simp [hi, bv]
end Go.Proofs.YtmfagaajiakgoaaGreatDoor
