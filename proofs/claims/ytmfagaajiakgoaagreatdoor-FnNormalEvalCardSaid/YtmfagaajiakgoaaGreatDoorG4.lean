/- What reading a whole text returns. No conditions. -/
import Derived.Test.YtmfagaajiakgoaaGreatDoorG3
import Derived.Lib.Builder
import Derived.Lib.UnsafeStr
import Derived.Laws.MakeOwn

namespace Go.Proofs.YtmfagaajiakgoaaGreatDoor
set_option maxRecDepth 100000
set_option linter.unusedVariables false
set_option linter.unusedSimpArgs false

def RD (p : Option Tree) (L : Bj ) : Cv   := fun v I' L' => ∃ t cs ok, v = .tuple #[.agg cs.toArray, .bool ok] ∧ Rep I' t cs ∧ L = L' ∧
  (match p with
   | some t0 => ok = true ∧ t = t0
   | none => ok = false)

theorem Agj (s : As) (hs : s.length ≤ Bg) (I : Heap) (L : Bj) : Fun Tryz.prog 90 [.string (str s)] I L (RD (D4 s) L) := by
 unfold Bg at hs
 refine Ao Ae ?_; refine Se rfl ?_; refine A1 .free rfl ?_; intro b2; refine Oa rfl (Ab (Ah (Se rfl (Om rfl ?_)))); refine Dh rfl .free rfl ?_; refine Oc rfl rfl rfl (Ab ?_); refine Si rfl ?_ ?_
 ·intro c0; refine Se rfl ?_; refine Cd rfl rfl rfl .free rfl ?_; refine By rfl rfl rfl rfl .free ?_; refine Oa rfl (Ab ?_); refine Am (.c rfl (.tmp rfl .nil)) ?_
  exact ⟨I, L, .refl _, fun _ h => h.drop, .node [] [], _, false, rfl, Rep.empty I, rfl, by rw [D4, if_pos Aa]⟩
 intro c0; refine Ak (Se rfl (Om rfl ?_)); refine Ca rfl (Zj 60 s Aa 0 rfl _ _) ?_; rintro _ J _ hleJ ⟨t, cs, r, ok, rfl, hrep, rfl, hrlen, hpf⟩; obtain ⟨oa, cc, vs, rfl, -⟩ := hrep.open; refine Om rfl ?_
 iterate 3 refine Oe rfl rfl ?_
 refine A1 .free rfl ?_; intro b4; refine By rfl rfl rfl rfl .free ?_; refine Oa rfl (Oa rfl (Ab (Se rfl ?_))); refine C1 rfl .free rfl ?_; refine Om rfl (Om rfl ?_)
 first | refine Ho rfl rfl ?_ ?_ | refine Fp rfl rfl ?_ ?_ | refine Nd rfl rfl ?_ ?_
 ·intro g4_3; refine Ow rfl ?_; refine F9 rfl rfl rfl (.met rfl rfl) rfl ?_; refine Ot rfl rfl ?_; refine By rfl rfl rfl rfl .free ?_; refine Oa rfl (Ab ?_); refine Am (.c rfl (.tmp rfl .nil)) ?_; refine ⟨J, L, hleJ, fun _ h => h.drop.drop, t, _, _, rfl, hrep, rfl, ?_⟩; rw [D4, if_neg Aa]
  cases hp : E4 60 s with
  | none => simp_all
  | some p =>
   obtain ⟨t0, r0⟩ := p; rw [hp] at hpf; obtain ⟨rfl, rfl, rfl⟩ := hpf
   cases r <;> simp_all
 intro g4_3; refine Cy rfl rfl rfl ?_; refine Cy rfl rfl rfl ?_; refine Of rfl rfl ?_; refine By rfl rfl rfl rfl .free ?_; refine Oa rfl (Ab ?_); refine Am (.c rfl (.tmp rfl .nil)) ?_; refine ⟨J, L, hleJ, fun _ h => h.drop.drop, t, _, _, rfl, hrep, rfl, ?_⟩; rw [D4, if_neg Aa]
 cases hp : E4 60 s with
 | none => simp_all
 | some p =>
  obtain ⟨t0, r0⟩ := p; rw [hp] at hpf; obtain ⟨rfl, rfl, rfl⟩ := hpf
  cases r <;> simp_all

def RT (p : Option Tree) (L : Bj ) : Cv   := fun v I' L' => ∃ t cs ok, v = .tuple #[.agg cs.toArray, .bool ok] ∧ Rep I' t cs ∧ L = L' ∧
  (match p with
   | some t0 => ok = t0.typed ∧ t = t0
   | none => ok = false)

def LR (s : As ) (p : Option (Tree × As )) (L : Bj ) : Cv   := fun v I' L' => ∃ t cs e, v = .tuple #[.agg cs.toArray, .int .i64 e] ∧ Rep I' t cs ∧ L = L' ∧
  (match p with
   | some (t0, r0) => t = t0 ∧ e = ((s.length - r0.length : Nat) : Int)
   | none => e = -1)
def Jb : Nat → As → Option (Tree × As)
 | 0, _ => none
 | k + 1, s => E4 k s
theorem We {k : Nat} {s : As} {t : Tree} {r : As} (h : Jb k s = some (t, r)) : r <:+ s := by
 cases k with
 | zero => cases h
 | succ k => exact Px h
theorem Abp {k : Nat} {s : As} {t : Tree} {r : As} (h : Jb k s = some (t, r)) : r.length < s.length := by
 cases k with
 | zero => cases h
 | succ k => exact Va h
theorem Wp : ∀ (n : Nat) (s : As), Fe (fun _ => none) n s = none
 | 0, _ => rfl
 | n + 1, s => rfl
theorem Wq {k : Nat} {s : As} (h : (s.getD 0 0).toNat = 40) : E4 k s = (match Fe (Jb k) s.length (s.drop 1) with
  | some (ts, r) => some (.node [] ts, r)
  | none => none) := by
 cases k with
 | zero => rw [Kv h, show Jb 0 = fun _ => none from rfl, Wp]
 | succ k => exact Js h
structure LS where
 I : Heap
 i : Nat
 m : Nat
 ts : List Tree
 B : Kg
 c : Nat
 xs : List Value
 n : Nat
def Ag4 (k : Nat) (s : As) (i₀ : Nat) (I₀ : Heap) (x : LS) : Prop := HLe I₀ x.I ∧ RepL x.I x.ts x.xs ∧ Dd 2 x.m x.c x.xs x.B ∧ x.m = x.ts.length ∧ x.i < s.length ∧ s.length - x.i ≤ x.n ∧ x.m + (s.length - x.i) ≤ s.length ∧
 R9 (Jb k) (E4 k (s.drop i₀)) ⟨x.I, s.drop x.i, x.m, x.ts, x.B, x.c, x.xs, x.n⟩
theorem Kh (s : As) (i n : Nat) : (s.drop i).getD n 0 = s.getD (i + n) 0 := by simp [List.getD_eq_getElem?_getD, List.getElem?_drop]
theorem Nu {s : As} {p : Option (Tree × As)} {t : Tree} {cs : List Value} {I : Heap} {L : Bj} (hr : Rep I t cs) (hp : p = none) : LR s p L (.tuple #[.agg cs.toArray, .int .i64 (-1)]) I L :=
 ⟨t, cs, -1, rfl, hr, rfl, by rw [hp]⟩

theorem Adc : ∀ (k : Nat) (s : As) (_ : s.length ≤ 12000) (i : Nat) (_ : i ≤ s.length) (depth : Nat) (_ : depth + k = 61) (I : Heap) (L : Bj),
  Fun Tryz.prog 144 [.string (str s), .int .i64 (i : Nat), .int .i64 (depth : Nat)] I L (LR s (Jb k (s.drop i)) L) := by
 intro k
 induction k with
 | zero =>
  intro s hsl i hi depth hdeep I L; refine Ao Ae ?_; refine Se rfl ?_; refine A1 .free rfl ?_; intro b6; refine Oa rfl (Ab (Se rfl ?_)); refine Cd rfl rfl rfl .free rfl ?_; refine A1 .free rfl ?_; intro b8; refine By rfl rfl rfl rfl .free ?_; refine Ab (Ah (Se rfl (Om rfl (Oc rfl rfl rfl (Om rfl ?_)))))
  first | refine Ago rfl rfl Aa ?_ | refine Agn rfl rfl Aa ?_
  iterate 4 refine Cy rfl rfl rfl ?_
  refine Ot rfl rfl (Ab ?_); refine B9 rfl ?_; refine Se rfl ?_; refine C1 rfl .free rfl ?_; refine By rfl rfl rfl rfl .free ?_; refine Oa rfl (Ab ?_); refine Am (.c rfl (.tmp rfl .nil)) ?_
  exact ⟨I, L, .refl _, fun _ h => h.drop.drop, .node [] [], _, -1, rfl, Rep.empty I, rfl, rfl⟩
 | succ k ihk =>
  intro s hsl i hi depth hdeep I L; refine Ao Ae ?_; refine Se rfl ?_; refine A1 .free rfl ?_; intro b6; refine Oa rfl (Ab (Se rfl ?_)); refine Cd rfl rfl rfl .free rfl ?_; refine A1 .free rfl ?_; intro b8; refine By rfl rfl rfl rfl .free ?_; refine Ab (Ah (Se rfl (Om rfl (Oc rfl rfl rfl (Om rfl ?_)))))
  first | refine Agl rfl rfl Aa ?_ | refine Agk rfl rfl Aa ?_
  refine Ow rfl (Ow rfl ?_); refine Dh rfl (.met rfl rfl) rfl ?_; refine D8 rfl rfl rfl (.met rfl rfl) rfl ?_; refine Of rfl rfl (Ab ?_); refine Si rfl ?_ ?_
  ·intro c0; refine Se rfl ?_; refine C1 rfl .free rfl ?_; refine By rfl rfl rfl rfl .free ?_; refine Oa rfl (Ab ?_); refine Am (.c rfl (.tmp rfl .nil)) ?_
   exact ⟨I, L, .refl _, fun _ h => h.drop.drop, Nu (Rep.empty I) (by simp only [Jb]; rw [List.drop_eq_nil_of_le Aa]; cases k <;> rfl)⟩
  intro c0; refine Ak (Ah (Se rfl (Om rfl (Om rfl ?_)))); refine D9 rfl rfl rfl Bx .free rfl ?_; refine Oc rfl rfl rfl (Ab ?_); refine Si rfl ?_ ?_
  ·intro c1
   have h40 : ((s.drop i).getD 0 0).toNat ≠ 40 := by rw [Kh]; simp only [Nat.add_zero]; omega
   refine Se rfl (Om rfl (Oa rfl (Ab (Ah (Aq ?_))))); refine Dn (X := Nat) (fun n => s.length - i - n) (fun n => [(0, .string (str s)), (1, .int .i64 ((i + n : Nat))), (6, .pointer (some ⟨b6, 0, none⟩)), (8, .pointer (some ⟨b8, 0, none⟩)), (9, .int .i64 (i : Nat))]) (fun _ => I)
    (fun _ => (b8, .cells [.string (str []), .slice none 0 0].toArray 68 (0, 0)) :: (b6, .cells [.string (str []), .slice none 0 0].toArray 68 (0, 0)) :: L) (fun n => i + n ≤ s.length ∧ ((s.drop i).take n).all Fn = true) 0 ⟨by omega, by simp⟩ ⟨rfl, rfl, rfl, rfl, rfl, trivial⟩ (fun _ h => h) ?_
   rintro n ⟨hn, hall⟩ ih; refine Ah (Se rfl (Om rfl (Om rfl ?_))); refine Dh rfl .free rfl ?_; refine Oc rfl rfl rfl (Om rfl ?_)
   first | refine Ho rfl rfl ?_ ?_ | refine Fp rfl rfl ?_ ?_ | refine Nd rfl rfl ?_ ?_
   ·intro g6_5; refine Ow rfl (Ow rfl ?_); refine D9 rfl rfl rfl Bx (.met rfl rfl) rfl ?_; refine Cx rfl (.met rfl rfl) rfl (Ada _ _ _) ?_; rintro _ _ _ _ ⟨rfl, rfl, rfl⟩; refine Ot rfl rfl (Ab ?_); refine Si rfl ?_ ?_
    ·intro c2; refine Ak (Aq (Al rfl (Om rfl ?_))); refine Or rfl rfl rfl ?_; refine Oa rfl (Ab (Ap ?_)); refine Ed (E' := [(0, .string (str s)), (1, .int .i64 ((i + (n + 1) : Nat))), (6, .pointer (some ⟨b6, 0, none⟩)), (8, .pointer (some ⟨b8, 0, none⟩)), (9, .int .i64 (i : Nat))]) ⟨rfl, rfl, rfl, rfl, rfl, trivial⟩ (ih (n + 1) ⟨by omega, K0 hall (by rw [List.length_drop]; omega) (by rw [Kh]; assumption)⟩ Aa)
    intro c2; refine Cc rfl ?_; refine Ah ?_
    have htw := Mx (n := n) hall (by first | exact .inl (by rw [List.length_drop]; omega) | exact .inr ⟨by rw [List.length_drop]; omega, by rw [Kh]; assumption⟩)
    have hpo := Ij (k := k) h40
    rw [htw.1, htw.2] at hpo
    have hdt : (s.take (i + n)).drop i = (s.drop i).take n := by rw [List.drop_take]; congr 1; omega
    refine Al rfl ?_
    iterate 3 refine Om rfl ?_
    refine Rn rfl rfl rfl i (i + n) rfl rfl Aa .free rfl ?_; rw [hdt]
    first | refine Oh rfl ?_ | refine Oj rfl ?_
    refine By rfl rfl rfl rfl .free ?_; refine Ab (Ah (Se rfl ?_))
    first | refine Oh rfl ?_ | refine Oj rfl ?_
    refine C1 rfl .free rfl ?_; refine Od rfl rfl rfl (Ab ?_); refine Si rfl ?_ ?_
    ·intro c3; refine Se rfl ?_; refine C1 rfl .free rfl ?_; refine By rfl rfl rfl rfl .free ?_; refine Oa rfl (Ab ?_); refine Am (.c rfl (.tmp rfl .nil)) ?_
     exact ⟨I, L, .refl _, fun _ h => h.drop.drop, Nu (.ofAtom Jc) (by simp only [Jb]; rw [hpo, if_pos Df])⟩
    intro c3; refine Ak (Se rfl ?_); refine C1 rfl .free rfl ?_; refine Om rfl ?_; refine By rfl rfl rfl rfl .free ?_; refine Oa rfl (Ab ?_); refine Am (.c rfl (.tmp rfl .nil)) ?_; refine ⟨I, L, .refl _, fun _ h => h.drop.drop, .node ((s.drop i).take n) [], _, _, rfl, .ofAtom Jc, rfl, ?_⟩
    simp only [Jb]; rw [hpo, if_neg Df]
    refine ⟨rfl, ?_⟩
    simp only [List.length_drop]; omega
   intro g6_5
   iterate 4 refine Cy rfl rfl rfl ?_
   refine Of rfl rfl (Ab ?_); refine A0 rfl ?_; refine Cc rfl ?_; refine Ah ?_
   have htw := Mx (n := n) hall (by first | exact .inl (by rw [List.length_drop]; omega) | exact .inr ⟨by rw [List.length_drop]; omega, by rw [Kh]; assumption⟩)
   have hpo := Ij (k := k) h40
   rw [htw.1, htw.2] at hpo
   have hdt : (s.take (i + n)).drop i = (s.drop i).take n := by rw [List.drop_take]; congr 1; omega
   refine Al rfl ?_
   iterate 3 refine Om rfl ?_
   refine Rn rfl rfl rfl i (i + n) rfl rfl Aa .free rfl ?_; rw [hdt]
   first | refine Oh rfl ?_ | refine Oj rfl ?_
   refine By rfl rfl rfl rfl .free ?_; refine Ab (Ah (Se rfl ?_))
   first | refine Oh rfl ?_ | refine Oj rfl ?_
   refine C1 rfl .free rfl ?_; refine Od rfl rfl rfl (Ab ?_); refine Si rfl ?_ ?_
   ·intro c3; refine Se rfl ?_; refine C1 rfl .free rfl ?_; refine By rfl rfl rfl rfl .free ?_; refine Oa rfl (Ab ?_); refine Am (.c rfl (.tmp rfl .nil)) ?_
    exact ⟨I, L, .refl _, fun _ h => h.drop.drop, Nu (.ofAtom Jc) (by simp only [Jb]; rw [hpo, if_pos Df])⟩
   intro c3; refine Ak (Se rfl ?_); refine C1 rfl .free rfl ?_; refine Om rfl ?_; refine By rfl rfl rfl rfl .free ?_; refine Oa rfl (Ab ?_); refine Am (.c rfl (.tmp rfl .nil)) ?_; refine ⟨I, L, .refl _, fun _ h => h.drop.drop, .node ((s.drop i).take n) [], _, _, rfl, .ofAtom Jc, rfl, ?_⟩
   simp only [Jb]; rw [hpo, if_neg Df]
   refine ⟨rfl, ?_⟩
   simp only [List.length_drop]; omega
  intro c1; refine Ak (Aq ?_)
  have hi' : i < s.length := by omega
  refine Dn (X := LS) (fun x => s.length - x.i) (fun x => [(0, .string (str s)), (1, .int .i64 (x.i : Nat)), (2, .int .i64 (depth : Nat)), (6, .pointer (some ⟨b6, 0, none⟩)), (8, .pointer (some ⟨b8, 0, none⟩))]) (fun x => x.I)
   (fun x => (b8, .cells [.string (str []), Bm x.m x.c x.B].toArray 68 (0, 0)) :: (b6, .cells [.string (str []), .slice none 0 0].toArray 68 (0, 0)) :: (A2 68 x.xs x.B ++ L)) (Ag4 k s i I) ⟨I, i, 0, [], none, 0, [], s.length - i⟩
   ⟨.refl _, .nil, ⟨rfl, rfl, rfl⟩, rfl, hi', Nat.le_refl _, by simp, by
    have := Wq (k := k) (s := s.drop i) (by rw [Kh]; simp only [Nat.add_zero]; omega)
    rw [List.length_drop] at this
    unfold R9
    split <;> simp_all⟩ ⟨rfl, rfl, rfl, rfl, rfl, trivial⟩ (fun _ h => h) ?_
  rintro x ⟨hle, hrl, hB, hxm, hxi, hxn, hxt, hlink⟩ ih; refine Aq (Se rfl (Om rfl (Om rfl ?_))); refine Or rfl rfl rfl ?_; refine Om rfl ?_; refine Or rfl rfl rfl ?_; refine Ca rfl (ihk s hsl (x.i + 1) Aa (depth + 1) Aa _ _) ?_; rintro _ J _ hleJ ⟨t, cs, e, rfl, hrep, rfl, hpf⟩; obtain ⟨oa, cc, vs, rfl, -⟩ := hrep.open
  have hdd : (s.drop x.i).drop 1 = s.drop (x.i + 1) := by rw [List.drop_drop]
  obtain ⟨je, hje⟩ : ∃ je : Nat, e = je ∨ e = -1 := by
   cases hp : Jb k (s.drop (x.i + 1)) with
   | none => rw [hp] at hpf; exact ⟨0, .inr hpf⟩
   | some p => rw [hp] at hpf; exact ⟨_, .inl hpf.2⟩
  refine Om rfl (Oe rfl rfl (Oe rfl rfl ?_)); refine A1 .free rfl ?_; intro b10; refine By rfl rfl rfl rfl .free ?_; refine Oa rfl (Ab (Ah (Se rfl (Om rfl (Oc rfl rfl rfl (Om rfl ?_))))))
  first | refine Ho rfl rfl ?_ ?_ | refine Fp rfl rfl ?_ ?_ | refine Nd rfl rfl ?_ ?_
  ·intro g13_3
   iterate 4 refine Cy rfl rfl rfl ?_
   refine Ot rfl rfl (Ab ?_); refine B9 rfl ?_; refine Ah ?_; refine Cu (fun w h => h.u3) (Rp (a := []) (hrl.mono hleJ) hB hxm Bf C3 ?_); intro J2 hle2 hrep2; refine Al rfl ?_; refine C1 rfl .free rfl ?_; refine By rfl rfl rfl rfl .free ?_; refine Oa rfl (Ab ?_); refine Am (.c rfl (.tmp rfl .nil)) ?_
   have hf : E4 k (s.drop i) = none := by
    refine Kj hlink Dq ?_
    simp only [hdd]
    cases hp : Jb k (s.drop (x.i + 1)) with
    | none => exact .inl rfl
    | some p =>
     obtain ⟨t0, r0⟩ := p; rw [hp] at hpf; refine .inr ⟨t0, r0, rfl, .inl ?_⟩
     have h2 := hpf.2
     apply List.eq_nil_of_length_eq_zero
     omega
   exact ⟨J2, L, (hle.trans hleJ).trans hle2, fun _ h => h.drop.drop.drop, Nu hrep2 hf⟩
  intro g13_3; refine Ow rfl (Ow rfl ?_); refine Dh rfl (.met rfl rfl) rfl ?_; refine D8 rfl rfl rfl (.met rfl rfl) rfl ?_; refine Of rfl rfl (Ab ?_); refine Si rfl ?_ ?_
  ·intro c4; refine Ah ?_; refine Cu (fun w h => h.u3) (Rp (a := []) (hrl.mono hleJ) hB hxm Bf C3 ?_); intro J2 hle2 hrep2; refine Al rfl ?_; refine C1 rfl .free rfl ?_; refine By rfl rfl rfl rfl .free ?_; refine Oa rfl (Ab ?_); refine Am (.c rfl (.tmp rfl .nil)) ?_
   have hf : E4 k (s.drop i) = none := by
    refine Kj hlink Dq ?_
    simp only [hdd]
    cases hp : Jb k (s.drop (x.i + 1)) with
    | none => exact .inl rfl
    | some p =>
     obtain ⟨t0, r0⟩ := p; rw [hp] at hpf; refine .inr ⟨t0, r0, rfl, .inl ?_⟩
     have h2 := hpf.2
     apply List.eq_nil_of_length_eq_zero
     omega
   exact ⟨J2, L, (hle.trans hleJ).trans hle2, fun _ h => h.drop.drop.drop, Nu hrep2 hf⟩
  intro c4; refine Ak (Ah ?_); obtain rfl : e = je := by omega
  obtain ⟨r, hpf', hre, hrne⟩ : ∃ r, Jb k (s.drop (x.i + 1)) = some (t, r) ∧ r = s.drop je ∧ r ≠ [] := by
   cases hp : Jb k (s.drop (x.i + 1)) with
   | none => rw [hp] at hpf; omega
   | some p =>
    obtain ⟨t0, r0⟩ := p; rw [hp] at hpf; obtain ⟨rfl, h2⟩ := hpf
    have hsf := We hp
    have h3 := Y0 (hsf.trans (List.drop_suffix _ _))
    have h4 := hsf.length_le
    rw [List.length_drop] at h4
    have h5 : je = s.length - r0.length := by omega
    refine ⟨r0, rfl, by rw [h5]; exact h3, ?_⟩; intro e; subst e; simp at h5; omega
  have hrl0 : r.length = s.length - je := by rw [hre]; simp
  have hrpos := List.length_pos_iff.2 hrne
  have hrlt : x.i + 1 < je := by have := Abp hpf'; rw [List.length_drop] at this; omega
  refine Al rfl ?_
  first | refine Oh rfl ?_ | refine Oj rfl ?_
  refine C1 rfl .free rfl ?_; refine C1 rfl .free rfl ?_; refine Ol rfl rfl ?_; intro b71; refine D1 (B := x.B) (xs := x.xs) (ys := [.string (str t.atom), .slice oa t.parts.length cc]) (m := x.m) (c := x.c) Av Ac rfl rfl hB (fun _ h => h.u4) Ac (fun a ha => by cases ha; exact Bw (.head _) Ac) Ae Ac Ad Ad Aa Ad .free rfl ?_; intro bb sp c' hB'
  first | refine Oh rfl ?_ | refine Oj rfl ?_
  refine By rfl rfl rfl rfl .free ?_
  have hrl' : RepL J (x.ts ++ [t]) (x.xs ++ [Value.string (str t.atom), Value.slice oa t.parts.length cc]) := (hrl.mono hleJ).append (.cons hrep .nil)
  have hlen' : x.m + 1 = (x.ts ++ [t]).length := by simp [hxm]
  have hhd : r.getD 0 0 = s.getD je 0 := by rw [hre, Kh]; rfl
  refine Ab (Se rfl (Om rfl (Oa rfl (Ab (Ah (Se rfl (Om rfl (Om rfl ?_)))))))); refine D9 rfl rfl rfl Aa .free rfl ?_; refine Oc rfl rfl rfl (Ab ?_); refine Si rfl ?_ ?_
  ·intro c5; refine Ah ?_; refine Bu ?_; intro hfz; refine Al rfl ?_; refine C1 rfl .free rfl ?_; refine Om rfl ?_; refine Or rfl rfl rfl ?_; refine By rfl rfl rfl rfl .free ?_; refine Oa rfl (Ab ?_); refine Am (.c rfl (.tmp rfl .nil)) ?_; refine ⟨_, L, (hle.trans hleJ).trans hfz, fun _ h => h.drop.drop.drop.drop, .node [] (x.ts ++ [t]), _, _, rfl, .mk' hlen' (hrl'.mono hfz) (fun y hy => by cases hy; exact A9) Ae hB'.2.1 Bf C3, rfl, ?_⟩
   simp only [Jb]
   rw [Qo hlink Dq (by simp only [hdd]; exact hpf') hrne (by rw [hhd]; omega)]; refine ⟨rfl, ?_⟩
   simp only [List.length_drop]; omega
  intro c5; refine Ak (Se rfl (Om rfl (Om rfl ?_))); refine D9 rfl rfl rfl Aa .free rfl ?_; refine Oc rfl rfl rfl (Ab ?_); refine Si rfl ?_ ?_
  ·intro c6; refine Ah ?_; refine Bu ?_; intro hfz; refine Al rfl ?_; refine C1 rfl .free rfl ?_; refine By rfl rfl rfl rfl .free ?_; refine Oa rfl (Ab ?_); refine Am (.c rfl (.tmp rfl .nil)) ?_
   have hf : E4 k (s.drop i) = none := by
    refine Kj hlink Dq (.inr ⟨t, r, by simp only [hdd]; exact hpf', .inr ⟨by rw [hhd]; omega, by rw [hhd]; omega⟩⟩)
   exact ⟨_, L, (hle.trans hleJ).trans hfz, fun _ h => h.drop.drop.drop.drop, Nu (t := .node [] (x.ts ++ [t])) (.mk' hlen' (hrl'.mono hfz) (fun y hy => by cases hy; exact A9) Ae hB'.2.1 Bf C3) hf⟩
  intro c6; refine Ak (Ap ?_); refine Cu (fun w h => Mem.sub (L' := (b8, _) :: (b6, _) :: (bb, _) :: L) A7 h.f4.f4) (Ed ?_ (ih ⟨J, je, x.m + 1, x.ts ++ [t], some (bb, sp), c', _, x.n - 1⟩ ⟨hle.trans hleJ, hrl', hB', hlen', by simp only; omega, by simp only; omega, by simp only; omega, ?_⟩ Dq))
  ·exact ⟨rfl, rfl, rfl, rfl, rfl, trivial⟩
  ·have := Qp (I := J) (B := some (bb, sp)) (c := c') (m' := x.m + 1) (xs := x.xs ++ [Value.string (str t.atom), Value.slice oa t.parts.length cc]) hlink Dq (by simp only [hdd]; exact hpf') hrne (by rw [hhd]; omega) (by rw [hhd]; omega)
   rw [hre] at this
   exact this

def Mk : Nat := 9223372036854775807
theorem Qq {n : Nat} (h : n ≤ Bg) : n ≤ Mk := by unfold Bg at h; unfold Mk; omega
theorem Ig (s : As) (hs : s.length ≤ Mk) (I : Heap) (L : Bj) : Fun Tryz.prog 94 [.string (str s)] I L (RD (D4 s) L) := by
 unfold Mk at hs
 refine Ao Ae ?_; refine Se rfl ?_; refine A1 .free rfl ?_; intro b2; refine Oa rfl (Ab (Ah (Se rfl (Om rfl ?_)))); refine Dh rfl .free rfl ?_; refine Oc rfl rfl rfl (Ab ?_); refine Si rfl ?_ ?_
 ·intro c0; refine Se rfl ?_; refine Cd rfl rfl rfl .free rfl ?_; refine By rfl rfl rfl rfl .free ?_; refine Oa rfl (Ab ?_); refine Am (.c rfl (.tmp rfl .nil)) ?_
  exact ⟨I, L, .refl _, fun _ h => h.drop, .node [] [], _, false, rfl, Rep.empty I, rfl, by rw [D4, if_pos Aa]⟩
 intro c0; refine Ak (Se rfl (Om rfl ?_)); refine Ca rfl (Adc 61 s Aa 0 Aa 0 rfl _ _) ?_; rintro _ J _ hleJ ⟨t, cs, e, rfl, hrep, rfl, hpf⟩; obtain ⟨oa, cc, vs, rfl, -⟩ := hrep.open; refine Om rfl (Oe rfl rfl (Oe rfl rfl ?_)); refine A1 .free rfl ?_; intro b4; refine By rfl rfl rfl rfl .free ?_; refine Oa rfl (Ab (Se rfl ?_)); refine C1 rfl .free rfl ?_; refine Om rfl (Om rfl ?_); refine Dh rfl .free rfl ?_; refine Oc rfl rfl rfl ?_; refine By rfl rfl rfl rfl .free ?_; refine Oa rfl (Ab ?_); refine Am (.c rfl (.tmp rfl .nil)) ?_
 refine ⟨J, L, hleJ, fun _ h => h.drop.drop, t, _, _, rfl, hrep, rfl, ?_⟩; rw [D4, if_neg Aa]
 simp only [Jb, List.drop_zero] at hpf
 cases hp : E4 60 s with
 | none =>
  rw [hp] at hpf
  simp only at hpf ⊢
  exact decide_eq_false Aa
 | some p =>
  obtain ⟨t0, r0⟩ := p
  have hsf := (Px hp).length_le
  have hlt := Va hp
  rw [hp] at hpf; obtain ⟨rfl, rfl⟩ := hpf
  cases r0 with
  | nil => exact ⟨decide_eq_true Ae, rfl⟩
  | cons c r0 =>
   simp only [List.length_cons] at hlt hsf ⊢
   exact decide_eq_false Aa
theorem Uy (s : As) (hs : s.length ≤ Bg) (I : Heap) (L : Bj) : Fun Tryz.prog 94 [.string (str s)] I L (RD (D4 s) L) := Ig s (Qq hs) I L
def J7 (s : As) : Option Tree := match D4 s with
 | some t => bif t.typed then some t else none
 | none => none
section rules
variable {P : Program} {f : FuncId} {n : Nat} {I₀ : Heap} {Q : Cv} {k : List Item} {E : Hg} {I : Heap} {L : Bj}
variable {ops : Array Oper} {d : Nat} {ty : TypeId} {pos : String} {af : Array Edge} {g : Option (Nat × Bool)} {l : List Oper}

theorem Ju {c : Code} {rs : List ResultVar} {vs : List Value} {m : Nat} [hf : Bq P f c m rs] (hr : RetOk P E I L rs vs)
  (hp : ∃ I' L', HLe I₀ I' ∧ (∀ w, Mem I L w → Mem I' L' w) ∧ Q (C2 vs) I' L') : RunS P f n I₀ Q [] E I L := by
 obtain ⟨fn, hfn, _, _, hrs, _⟩ := hf.get; intro a w ha hd he hm cs; obtain ⟨I', L', hle, hmm, hq⟩ := hp; refine ⟨.returned (C2 vs), w, _, ⟨_, I', L', rfl, hle, hmm w hm, hq⟩, .one step_end, rfl, rfl, hd, rfl, fn, hfn, ?_⟩
 have h1 := Aep hr he hm
 have h2 : (fn.results.mapM (fun | .tmp t => pure (a.tmps.getD t undef) | .cell b t => do loadVar t (← asAddr (a.tmps.getD b undef)) : ResultVar → Sem Value)).run P w = .ok vs.toArray w := by
  rw [hrs, List.mapM_toArray]
  exact Ag h1
 unfold results
 rw [show ((base f).at a []).tmps = a.tmps from rfl]; refine Eq.trans (Ag h2) ?_
 cases vs with
 | nil => rfl
 | cons v vs =>
  cases vs with
  | nil => rfl
  | cons u us => simp [C2, Ha]

theorem Cb {S : World → Prop} {x : Operand} {a : Addr} (hx : Ch E x = some (.pointer (some a))) : Ia P E S ⟨some d, .nilCheck x, ty, pos, af, g⟩ (.pointer (some a)) := fun ac w he _ => by
 simp only [execOp, he.eval hx]; rfl
theorem Aw {x : Operand} {a : Addr} (hx : Ch E x = some (.pointer (some a))) (hg : Wants ops E g) (hdn : Nat.blt d n = true) (h : A8 P f n I₀ Q ops l k ((d, .pointer (some a)) :: E) I L) :
  A8 P f n I₀ Q ops (⟨some d, .nilCheck x, ty, pos, af, g⟩ :: l) k E I L := Es (Cb hx) hg hdn h

theorem Id {op : BinOp} {T : TypeId} {x y : Operand} {a b : Option Addr} (w : World) : (eqGuard op T x y (.pointer a) (.pointer b)).run P w = .ok () w := by
 unfold eqGuard; split <;> rfl
theorem Aex {S : World → Prop} {T T' e sz bb : Nat} {z : List Value} [ht : At P T (.pointer e) sz bb z] {x y : Operand} {oa : Option Addr} (hx : Ch E x = some (.pointer oa)) (hy : Ch E y = some (.pointer none)) :
  Ia P E S ⟨some d, .binOp .eql T x y T', ty, pos, af, g⟩ (.bool oa.isNone) := fun ac w he _ => by
 simp only [execOp, he.eval hx, he.eval hy]
 refine Ag (a := _) (w' := w) ?_ |>.trans rfl
 rw [Ag (Id w)]
 have h : ∀ d : Nat, (Op.equalIn (d + 1) T (.pointer oa) (.pointer none)).run P w = .ok oa.isNone w := fun d => by
  unfold Op.equalIn
  rw [Ag (A3 ht.und w)]
  cases oa <;> rfl
 simp only [binOp, Op.equal]
 exact Ag (h 9999) |>.trans rfl
theorem Yi {T T' e sz bb : Nat} {z : List Value} [ht : At P T (.pointer e) sz bb z] {x y : Operand} {oa : Option Addr} (hx : Ch E x = some (.pointer oa)) (hy : Ch E y = some (.pointer none)) (hg : Wants ops E g) (hdn : Nat.blt d n = true)
  (h : A8 P f n I₀ Q ops l k ((d, .bool oa.isNone) :: E) I L) : A8 P f n I₀ Q ops (⟨some d, .binOp .eql T x y T', ty, pos, af, g⟩ :: l) k E I L := Es (Aex hx hy) hg hdn h
theorem Ab0 {T T' e sz bb esz ebb : Nat} {z ez : List Value} {dd : TypeDesc} [ht : At P T (.pointer e) sz bb z] [hte : At P e dd esz ebb ez] {x y : Operand} {a : Addr} (hx : Ch E x = some (.pointer (some a))) (hy : Ch E y = some (.pointer (some a))) (hg : Wants ops E g) (hdn : Nat.blt d n = true)
  (h : A8 P f n I₀ Q ops l k ((d, .bool false) :: E) I L) : A8 P f n I₀ Q ops (⟨some d, .binOp .neq T x y T', ty, pos, af, g⟩ :: l) k E I L :=
 Aea (fun ac w he => by
  simp only [execOp, he.eval hx, he.eval hy]
  refine Ag (a := _) (w' := w) ?_ |>.trans rfl
  rw [Ag (Id w)]; obtain ⟨i, z, hi, _⟩ := hte.info
  exact Lib.run_neq_ptr_same w a ht.und hi) hg hdn h

theorem Q6 {b : Nat} {c : Array Value} {T : TypeId} {fr : Nat × Nat} {w : World} (hm : (b, Obj.cells c T fr) ∈ L) (hw : Mem I L w) : w.shape? b = some (T, c.size) := by
 simp [World.shape?, (hw.2.1 _ hm).1]
theorem Zv {src dst t sz bb sz2 bb2 tsz tbb : Nat} {z z2 tz : List Value} {dd : TypeDesc} [hs : At P src (.pointer t) sz bb z] [hd : At P dst .unsafePointer sz2 bb2 z2] [ht : At P t dd tsz tbb tz] {x : Operand} {b off : Nat} {cs : List Value} {U : TypeId} {fr : Nat × Nat}
  (hx : Ch E x = some (.pointer (some ⟨b, off, none⟩))) (hm : (b, Obj.cells cs.toArray U fr) ∈ L) (ht0 : tsz ≠ 0) (ho : off < cs.length) (hg : Wants ops E g) (hdn : Nat.blt d n = true)
  (h : A8 P f n I₀ Q ops l k ((d, .pointer (some ⟨b, off, none⟩)) :: E) I L) : A8 P f n I₀ Q ops (⟨some d, .convert src dst x, ty, pos, af, g⟩ :: l) k E I L :=
 Es (fun ac w he hw => by
  obtain ⟨i, z, hi, hsz, _⟩ := ht.info
  simp only [execOp, he.eval hx]
  exact Ag (Lib.run_to_unsafe w ⟨b, off, none⟩ hs.und hd.und hi (by omega) (Q6 hm hw) (by simpa using ho)) |>.trans rfl) hg hdn h
theorem Wj {src dst u sz bb sz2 bb2 usz ubb : Nat} {z z2 uz : List Value} {dd : TypeDesc} [hs : At P src .unsafePointer sz bb z] [hd : At P dst (.pointer u) sz2 bb2 z2] [hu : At P u dd usz ubb uz] {x : Operand} {b off : Nat} {cs : List Value} {U : TypeId} {fr : Nat × Nat}
  (hx : Ch E x = some (.pointer (some ⟨b, off, none⟩))) (hm : (b, Obj.cells cs.toArray U fr) ∈ L) (hl : liesAt P P.depth U (cs.length / P.cellsOf U) off u 1 = true) (hg : Wants ops E g) (hdn : Nat.blt d n = true)
  (h : A8 P f n I₀ Q ops l k ((d, .pointer (some ⟨b, off, none⟩)) :: E) I L) : A8 P f n I₀ Q ops (⟨some d, .convert src dst x, ty, pos, af, g⟩ :: l) k E I L :=
 Es (fun ac w he hw => by
  obtain ⟨i, z, hi, _⟩ := hu.info
  simp only [execOp, he.eval hx]
  exact Ag (Lib.run_from_unsafe w ⟨b, off, none⟩ hs.und hd.und hi (Q6 hm hw) (by simpa using hl)) |>.trans rfl) hg hdn h

theorem Ad6 {kf : FuncId} {args : Array Operand} {tys : Array TypeId} {vs : List Value} {v : Value} {fn : Func} {e : Array Value → Sem Value} (hf : P.funcs[kf]? = some fn) (hb : fn.body = none) (hne : (fn.name == "runtime.NumGoroutine") = false)
  (h1 : (Extern.findNext fn).isNone = true) (h2 : Extern.find fn = some e) (hv : ∀ w, (e vs.toArray).run P w = .ok v w)
  (ha : I9 E args.toList = some vs) (hg : Wants ops E g) (hdn : Nat.blt d n = true) (h : A8 P f n I₀ Q ops l k ((d, v) :: E) I L) :
  A8 P f n I₀ Q ops (⟨some d, .call ⟨.value (.func kf), args, tys⟩, ty, pos, af, g⟩ :: l) k E I L :=
 Aea (fun a w he => by
  have h3 : args.map a.eval = vs.toArray := Array.ext' (by simpa using he.evals ha)
  simp only [execOp, resolve, h3]
  simp only [Act.eval, Deferred.ofValue, pure_bind, invoke]
  unfold callFunc
  rw [Ag (a := P) (w' := w) rfl]
  have h1' : Extern.findNext fn = none := by simpa using h1
  simp only [hf, hne, hb, Option.isNone_none, if_true, if_false, Bool.false_eq_true, h1', h2]
  rw [Ag (a := ()) (w' := w) rfl]
  have := hv w
  simp only [Array.append_empty, Array.empty_append]
  exact Ag this |>.trans rfl) hg hdn h

theorem Nm {T e T2 : TypeId} {sz bb esz ebb : Nat} {z ez : List Value} {dd dd2 : TypeDesc} (ht : At P T (.slice e) sz bb z) (hte : At P e dd esz ebb ez) {base : Option Addr} {m c : Nat} {x : Value} (hu2 : P.underlying T2 = some dd2) (hni : ∀ kk, dd2 ≠ .int kk)
  (hmc : m ≤ c) {w : World} (hxl : (Builtin.lenOf x).run P w = .ok 0 w) (hxf : (Builtin.firstCells esz 0 x).run P w = .ok #[] w) :
  (Builtin.append_ #[T, T2] T #[.slice base m c, x]).run P w = .ok (.slice base m c) w := by
 unfold Builtin.append_
 simp only [List.getElem?_toArray, List.getElem?_cons_zero, List.getElem?_cons_succ]
 rw [Ag (A3 ht.und w)]
 simp only []
 rw [Ag (F1 hte w)]; rw [Ag (A3 hu2 w)]
 have hz : (match dd2 with | .int _ => true | _ => false) = false := by
  cases dd2 <;> first | rfl | exact absurd rfl (hni _)
 simp only [hz, pure_bind, Bool.false_eq_true, if_false, Bool.not_false, if_true]
 rw [Ag hxl]
 simp only [Nat.add_zero, if_pos hmc]
 rw [Ag hxf]
 cases base <;> rfl

def bv (b : UInt8) : Value := .int .u8 (b.toNat : Nat)
theorem Pz {s : List UInt8} {w : World} : (Builtin.firstCells 1 s.length (.string (str s))).run P w = .ok (s.map bv).toArray w := by
 simp only [Builtin.firstCells, Ha]
 congr 1
 apply Array.ext'
 simp [str, ByteArray.data_extract, bv]
theorem Tn {s : List UInt8} {w : World} : (Builtin.lenOf (.string (str s))).run P w = .ok s.length w := by
 simp [Builtin.lenOf, Ha, str, ByteArray.size]
theorem Acr (s : List UInt8) : (s.map bv).all C6 = true := by simp [bv, C6]

theorem Yg {T T2 e : TypeId} {sz bb ebb sz2 bb2 : Nat} {z ez z2 : List Value} {dd : TypeDesc} [ht : At P T (.slice e) sz bb z] [hte : At P e dd 1 ebb ez] [ht2 : At P T2 .string sz2 bb2 z2]
  {x y : Operand} {B : Kg} {xs : List Value} {s : List UInt8} {m c : Nat} {L₀ : Bj} (hez : ez.length = 1)
  (hx : Ch E x = some (Bm m c B)) (hy : Ch E y = some (.string (str s))) (hB : Dd 1 m c xs B) (hL : ∀ w, Mem I L w → Mem I (A2 e xs B ++ L₀) w)
  (hsize : (m + s.length) ≤ 4294967296) (hbytes : ebb ≤ 1024) (hg : Wants ops E g) (hdn : Nat.blt d n = true)
  (h : ∀ B' c', Dd 1 (m + s.length) c' (xs ++ s.map bv) B' → (s ≠ [] → B' ≠ none) → (s = [] → B' = B) → A8 P f n I₀ Q ops l k ((d, Bm (m + s.length) c' B') :: E) I (A2 e (xs ++ s.map bv) B' ++ L₀)) :
  A8 P f n I₀ Q ops (⟨some d, .call ⟨.builtin .append, #[x, y], #[T, T2]⟩, T, pos, af, g⟩ :: l) k E I L := by
 refine Jo rfl hdn (fun a he => hg.wanted a he) fun a w he hm => ?_
 by_cases hs : s = []
 ·subst hs
  have hv : ∃ base cc, Bm m c B = .slice base m cc ∧ m ≤ cc ∧ cc = c := by
   cases B with
   | none => obtain ⟨h1, h2, h3⟩ := hB; exact ⟨none, 0, by simp [Bm, h2], by omega, h3.symm⟩
   | some p => exact ⟨_, c, rfl, hB.2.1, rfl⟩
  obtain ⟨base, cc, hbv, hmc, rfl⟩ := hv
  have := Nm (P := P) (T2 := T2) (base := base) (x := .string (str [])) (w := w) ht hte ht2.und Av hmc Tn Pz
  refine ⟨_, w, I, _, ?_, hL w hm, by simpa using h B cc (by simpa using hB) Ae (fun _ => rfl)⟩
  simp only [execOp, resolve, List.map_toArray, List.map, he.eval hx, he.eval hy, pure_bind, invoke, builtin, hbv]
  exact Ag this |>.trans rfl
 ·have hpos := List.length_pos_iff.2 hs
  obtain ⟨w', B', c', hr, hne, hB', hm'⟩ := O8 (x := .string (str s)) (m2 := s.length) (ys := s.map bv) ht hte hez ht2.und Av hB (hL w hm) Ae (fun _ => Tn) (fun w hw => Pz) (Acr s) hpos Ad hsize hbytes; refine ⟨_, w', I, _, ?_, hm', h B' c' hB' (fun _ => hne) (fun hh => absurd hh hs)⟩
  simp only [execOp, resolve, List.map_toArray, List.map, he.eval hx, he.eval hy, pure_bind, invoke, builtin]
  exact Ag hr |>.trans rfl

theorem Mem.frozen {b m : Nat} {o : Obj} {w : World} (h : Mem I ((b, o) :: L) w) : Mem I L (w.freeze ⟨b, 0, none⟩ m) := by
 obtain ⟨h1, h2, h3⟩ := h
 have hb := h2 (b, o) (.head _)
 have hn : b ∉ L.map (·.1) ∧ (L.map (·.1)).Nodup := List.nodup_cons.1 h3
 unfold World.freeze
 split
 ·exact ⟨h1, fun p hp => h2 p (.tail _ hp), hn.2⟩
 ·refine ⟨⟨fun c u hc => ?_, h1.2⟩, fun p hp => ⟨?_, (h2 p (.tail _ hp)).2⟩, hn.2⟩
  ·have hne : b ≠ c := fun e => by subst e; rw [hb.2] at hc; cases hc
   simp only [Array.getElem?_modify, if_neg hne]
   exact h1.1 c u hc
  ·have hne : b ≠ p.1 := fun e => hn.1 (e ▸ List.mem_map.2 ⟨p, hp, rfl⟩)
   simp only [Array.getElem?_modify, if_neg hne]
   exact (h2 p (.tail _ hp)).1


theorem Y9 {S : World → Prop} {x : Operand} {a : Addr} {m c : Nat} {tys : Array TypeId} (hx : Ch E x = some (.slice (some a) m c)) (hc : c ≠ 0) :
  Ia P E S ⟨some d, .call ⟨.builtin .unsafeSliceData, #[x], tys⟩, ty, pos, af, g⟩ (.pointer (some a)) := fun ac w he _ => by
 simp only [execOp, resolve, List.map_toArray, List.map, he.eval hx, pure_bind, invoke, builtin]
 exact Ag (Lib.run_unsafeSliceData_row w _ _ _ _ _ hc) |>.trans rfl
theorem W3 {S : World → Prop} {x : Operand} {m c : Nat} {tys : Array TypeId} (hx : Ch E x = some (.slice none m c)) :
  Ia P E S ⟨some d, .call ⟨.builtin .unsafeSliceData, #[x], tys⟩, ty, pos, af, g⟩ (.pointer none) := fun ac w he _ => by
 simp only [execOp, resolve, List.map_toArray, List.map, he.eval hx, pure_bind, invoke, builtin]
 exact Ag (Lib.run_unsafeSliceData_nil w _ _ _ _) |>.trans rfl
theorem Rv {S : World → Prop} {x y : Operand} {pt it : TypeId} {oa : Option Addr} (hx : Ch E x = some (.pointer oa)) (hy : Ch E y = some (.int .i64 0)) :
  Ia P E S ⟨some d, .call ⟨.builtin .unsafeString, #[x, y], #[pt, it]⟩, ty, pos, af, g⟩ (.string (str [])) := fun ac w he _ => by
 simp only [execOp, resolve, List.map_toArray, List.map, he.eval hx, he.eval hy, pure_bind, invoke, builtin]
 exact Ag (Lib.run_unsafeString_none w _ _ _ _) |>.trans rfl
theorem Sl {S : World → Prop} {fuel : Nat} {listed listed' : Array Bool} (i : Nat) {x y : Operand} {pt it e sz bb : Nat} {z : List Value} [ht : At P pt (.pointer e) sz bb z] {b : Nat} {xs : List UInt8} {sp : List Value} {fr : Nat × Nat} {L₀ : Bj}
  (hi : ops[i]? = some ⟨some d, .call ⟨.builtin .unsafeString, #[x, y], #[pt, it]⟩, ty, pos, af, g⟩) (hc : decide (Region.ready .any ops listed = [i]) = true) (hl : listed' = listed.setIfInBounds i true)
  (hx : Ch E x = some (.pointer (some ⟨b, 0, none⟩))) (hy : Ch E y = some (.int .i64 (xs.length : Nat))) (he1 : P.cellsOf e = 1) (h0 : xs ≠ []) (hlen : xs.length ≤ 4294967296)
  (hL : ∀ w, Mem I L w → Mem I ((b, .cells (xs.map bv ++ sp).toArray e fr) :: L₀) w) (hS : F6 ops listed' = true ∨ ∀ w, Mem I L₀ w → S w) (hg : Wants ops E g) (hdn : Nat.blt d n = true)
  (h : C0 P f n I₀ Q ops S fuel listed' k ((d, .string (str xs)) :: E) I L₀) : C0 P f n I₀ Q ops S (fuel + 1) listed k E I L := by
 refine Pi i hi hc hl rfl hdn (fun a he => hg.wanted a he) fun a w he hm => ?_
 have hm' := hL w hm
 have hb := (hm'.2.1 _ (.head _)).1
 refine ⟨_, _, I, L₀, ?_, hm'.frozen (m := xs.length), hS, h⟩
 simp only [execOp, resolve, List.map_toArray, List.map, he.eval hx, he.eval hy, pure_bind, invoke, builtin]
 refine Ag (Lib.run_unsafeString_row w pt it ty e ht.und he1 b _ (Q6 (.head _) hm') xs h0 Ae Aa ?_) |>.trans rfl
 intro j c hj; rw [Pg hb]
 have hjl : j < xs.length := by
  rcases Nat.lt_or_ge j xs.length with gg | gg
  ·exact gg
  ·simp [List.getElem?_eq_none gg] at hj
 simp only [Nat.zero_add, List.getElem?_toArray]
 rw [List.getElem?_append_left (by simpa using hjl), List.getElem?_map, hj]
 rfl

theorem P5 {m c : Nat} {B : Kg} : Gc (Bm m c B) = some [Bm m c B] := by cases B <;> rfl

end rules
theorem Mem.bl1 {I : Heap} {a p : Nat × Obj} {X L : Bj} {w : World} (h : Mem I (a :: p :: (X ++ L)) w) : Mem I (p :: (X ++ a :: L)) w := h.f1.perm (List.Perm.cons _ (List.perm_append_comm_assoc [a] X L))
theorem Mem.br1 {I : Heap} {a p : Nat × Obj} {X L : Bj} {w : World} (h : Mem I (p :: (X ++ a :: L)) w) : Mem I (a :: p :: (X ++ L)) w :=
 (h.perm (List.Perm.cons _ (List.perm_append_comm_assoc [a] X L).symm)).f1
def BOk (xs : As) (B : Kg) (c : Nat) : Prop := Dd 1 xs.length c (xs.map bv) B ∧ (B = none ∨ xs ≠ [])
def Vr (b : Nat) (pre : Bool) (xs : As) (B : Kg) (c : Nat) (L : Bj) : Bj :=
 (b, .cells [.pointer (bif pre then some ⟨b, 0, none⟩ else none), Bm xs.length c B].toArray 60 (0, 0)) :: (A2 5 (xs.map bv) B ++ L)

theorem Hf (b : Nat) (pre : Bool) (v2 : Value) (I : Heap) (L : Bj) : Fun Tryz.prog 137 [.pointer (some ⟨b, 0, none⟩)] I
  ((b, .cells [.pointer (bif pre then some ⟨b, 0, none⟩ else none), v2].toArray 60 (0, 0)) :: L)
  (fun v I' L' => v = .tuple #[] ∧ I = I' ∧ L' = (b, .cells [.pointer (some ⟨b, 0, none⟩), v2].toArray 60 (0, 0)) :: L) := by
 cases pre with
 | true =>
  refine Ao Ae ?_; refine Se rfl (Om rfl ?_); refine Aw rfl .free rfl ?_
  first | refine Oh rfl ?_ | refine Oj rfl ?_
  refine C1 rfl .free rfl ?_; refine Yi rfl rfl .free rfl ?_; refine Ab ?_
  first | refine Sf rfl Ae ?_ | refine A0 Ar ?_
  refine Se rfl (Om rfl ?_); refine Aw rfl .free rfl ?_
  first | refine Oh rfl ?_ | refine Oj rfl ?_
  refine C1 rfl .free rfl ?_; refine Om rfl ?_; refine Ab0 rfl rfl .free rfl ?_; refine Ab ?_
  first | refine Sf rfl Ae ?_ | refine A0 Ar ?_
  refine Ak ?_; refine Ju .nil ?_
  exact ⟨I, _, .refl _, fun _ h => h, rfl, rfl, rfl⟩
 | false =>
  refine Ao Ae ?_; refine Se rfl (Om rfl ?_); refine Aw rfl .free rfl ?_
  first | refine Oh rfl ?_ | refine Oj rfl ?_
  refine C1 rfl .free rfl ?_; refine Yi rfl rfl .free rfl ?_; refine Ab ?_
  first | refine St rfl Ae ?_ | refine B9 Ar ?_
  refine Al rfl (Om rfl (Om rfl ?_)); refine Zv rfl (.head _) Ad Ae .free rfl ?_; refine Ad6 (fn := Tryz.f177) (e := Extern.AbiNoEscape.same) Tryz.func177 Af Af Af Af (fun w => Lib.run_noEscape w _) rfl .free rfl ?_; refine Wj rfl (.head _) Af .free rfl ?_; refine Aw rfl .free rfl ?_
  first | refine Oh rfl ?_ | refine Oj rfl ?_
  refine By rfl rfl rfl rfl .free ?_; refine Ab ?_; refine Ju .nil ?_
  exact ⟨I, _, .refl _, fun _ h => h, rfl, rfl, rfl⟩

theorem Dg (b : Nat) (pre : Bool) (xs : As) (B : Kg) (c : Nat) (s : As) (hB : BOk xs B c) (hs : xs.length + s.length ≤ Bg) (I : Heap) (L : Bj) :
  Fun Tryz.prog 89 [.pointer (some ⟨b, 0, none⟩), .string (str s)] I (Vr b pre xs B c L)
  (fun v I' L' => v = .tuple #[.int .i64 (s.length : Nat), .nilIface] ∧ I = I' ∧ ∃ B' c', BOk (xs ++ s) B' c' ∧ L' = Vr b true (xs ++ s) B' c' L) := by
 unfold Bg at hs
 refine Ao Ae ?_; refine Se rfl (Oa rfl (Oa rfl (Ab (Se rfl (Om rfl ?_))))); refine Ca rfl (Hf b pre _ _ _) ?_; rintro _ _ _ _ ⟨rfl, rfl, rfl⟩; refine Ab (Se rfl (Om rfl (Om rfl ?_))); refine Aw rfl .free rfl ?_
 first | refine Oh rfl ?_ | refine Oj rfl ?_
 refine C1 rfl .free rfl ?_; refine Om rfl ?_; refine Yg (B := B) (xs := xs.map bv) (s := s) (m := xs.length) (c := c) Ac rfl rfl hB.1 (fun _ h => h.u1) Aa Ad .free rfl ?_; intro B' c' hB' hne hsame; refine C4 (fun w h => h.perm (List.perm_middle (l₁ := A2 _ _ B'))) ?_; refine Aw rfl .free rfl ?_
 first | refine Oh rfl ?_ | refine Oj rfl ?_
 refine Wn rfl rfl P5 rfl (by first | rfl | (simp only [List.toList_toArray, List.all_cons, List.all_nil, H8, Bool.and_true, Bool.true_and] <;> rfl)) (by first | exact u0 | exact u1 | exact u2 | exact u3 | exact u4 | exact u5 | exact u6) Ac .free ?_; refine Ab (Se rfl (Om rfl ?_)); refine Dh rfl .free rfl ?_; refine Oa rfl (Oa rfl (Ab ?_)); refine Am (.tmp rfl (.tmp rfl .nil)) ?_; refine ⟨I, _, .refl _, fun _ h => h, rfl, rfl, B', c', ⟨by simpa using hB', ?_⟩, by simp [Vr]⟩
 by_cases hs0 : s = []
 ·subst hs0; rw [hsame rfl]; simpa using hB.2
 ·exact .inr (by simp [hs0])
theorem F3 (b : Nat) (pre : Bool) (xs : As) (B : Kg) (c : Nat) (u : UInt8) (hB : BOk xs B c) (hs : xs.length + 1 ≤ Bg) (I : Heap) (L : Bj) :
  Fun Tryz.prog 143 [.pointer (some ⟨b, 0, none⟩), .int .u8 (u.toNat : Nat)] I (Vr b pre xs B c L)
  (fun v I' L' => v = .nilIface ∧ I = I' ∧ ∃ B' c', BOk (xs ++ [u]) B' c' ∧ L' = Vr b true (xs ++ [u]) B' c' L) := by
 unfold Bg at hs
 refine Ao Ae ?_; refine Se rfl (Oa rfl (Ab (Se rfl (Om rfl ?_)))); refine Ca rfl (Hf b pre _ _ _) ?_; rintro _ _ _ _ ⟨rfl, rfl, rfl⟩; refine Ab (Se rfl (Om rfl (Om rfl ?_))); refine Aw rfl .free rfl ?_
 first | refine Oh rfl ?_ | refine Oj rfl ?_
 refine C1 rfl .free rfl ?_; refine Om rfl ?_; refine Ol rfl rfl ?_; intro b13; refine D1 (B := B) (xs := xs.map bv) (ys := [bv u]) (m := xs.length) (c := c) Av Ac rfl rfl hB.1 (fun _ h => h.u2) Ac (fun a ha => by cases ha; exact Bw (.head _) Ac) Ae Ac Ad Ad Aa Ad .free rfl ?_; intro bb sp c' hB'; refine Aw rfl .free rfl ?_
 first | refine Oh rfl ?_ | refine Oj rfl ?_
 refine By rfl rfl rfl rfl .free ?_; refine Ab (Se rfl (Oa rfl (Ab (Am (.tmp rfl .nil) ?_)))); refine ⟨I, _, .refl _, fun w h => Mem.sub (L' := (b, _) :: (bb, _) :: L) A7 h.f2, rfl, rfl, some (bb, sp), c', ⟨by simpa using hB', .inr Ae⟩, by simp [Vr, A2, Bm]⟩
theorem H5 (b : Nat) (pre : Bool) (xs : As) (B : Kg) (c : Nat) (hB : BOk xs B c) (hs : xs.length ≤ Bg) (I : Heap) (L : Bj) :
  Fun Tryz.prog 46 [.pointer (some ⟨b, 0, none⟩)] I (Vr b pre xs B c L) (E2 (.string (str xs)) I L) := by
 unfold Bg at hs
 cases B with
 | none =>
  obtain ⟨⟨h1, h2, h3⟩, _⟩ := hB; obtain rfl : xs = [] := by simpa using h1
  refine Ao Ae ?_; refine Se rfl (Oa rfl (Ab (Ah ?_))); refine Fh 12 rfl rfl ?_; refine Da 0 rfl (Ai rfl) ?_; refine Da 1 rfl (Cb rfl) ?_
  first | refine Da 2 rfl (Aj rfl) ?_ | refine Da 2 rfl (A4 rfl) ?_
  refine Dt 3 [12] rfl (Ra rfl) ?_; refine Da 4 rfl (W3 rfl) ?_; refine Da 5 rfl (Ai rfl) ?_; refine Da 6 rfl (Cb rfl) ?_
  first | refine Da 7 rfl (Aj rfl) ?_ | refine Da 7 rfl (A4 rfl) ?_
  refine Dt 8 [12] rfl (Ra rfl) ?_; refine Da 9 rfl (Fd rfl) ?_; refine Da 10 rfl (Rv rfl rfl) ?_; refine Da 11 rfl (Bk rfl) ?_; refine A5 Af ?_; refine Am (.tmp rfl .nil) ?_; refine only rfl ?_
  simp [C2, *]
 | some p =>
  obtain ⟨bb, sp⟩ := p
  have hne : xs ≠ [] := by rcases hB.2 with h | h <;> simp_all
  have hpos := List.length_pos_iff.2 hne
  have hc := hB.1.2.1
  refine Ao Ae ?_; refine Se rfl (Oa rfl (Ab (Ah ?_)))
  simp only [Vr, A2, List.cons_append, List.nil_append]
  refine Kk I ((b, .cells [.pointer (bif pre then some ⟨b, 0, none⟩ else none), Bm xs.length c (some (bb, sp))].toArray 60 (0, 0)) :: L) 12 rfl rfl ?_; refine Da 0 rfl (Ai rfl) ?_; refine Da 1 rfl (Cb rfl) ?_
  first | refine Da 2 rfl (Aj rfl) ?_ | refine Da 2 rfl (A4 rfl) ?_
  refine Dt 3 [12] rfl (Ra rfl) ?_; refine Da 4 rfl (Y9 rfl Aa) ?_; refine Da 5 rfl (Ai rfl) ?_; refine Da 6 rfl (Cb rfl) ?_
  first | refine Da 7 rfl (Aj rfl) ?_ | refine Da 7 rfl (A4 rfl) ?_
  refine Dt 8 [12] rfl (Ra rfl) ?_; refine Da 9 rfl (Fd rfl) ?_; refine Sl 10 rfl Af rfl rfl rfl Af hne Aa (fun _ h => h.f1) (.inr Au) .free rfl ?_; refine Da 11 rfl (Bk rfl) ?_; refine A5 Af ?_; refine Am (.tmp rfl .nil) ?_; refine only rfl ?_
  simp [C2, *]
structure WS where
 i : Nat
 pre : Bool
 B : Kg
 c : Nat
theorem U8 (ps : List Tree) (i : Nat) : (H3 (ps.take i)).length ≤ (H3 ps).length := by
 rcases Nat.le_total ps.length i with h | h
 ·rw [List.take_of_length_le h]; exact Nat.le_refl _
 ·cases ps with
  | nil => simp
  | cons t ts =>
   cases i with
   | zero => simp [H3]
   | succ i =>
    have := Mz (ts.take i) (ts.drop i)
    rw [List.take_append_drop] at this
    simp [H3, this]
theorem V7 : ∀ (n : Nat) {I : Heap} {t : Tree} {cs : List Value} (_ : SizeOf.sizeOf t < n) (_ : Rep I t cs) (b : Nat) (pre : Bool) (xs : As) (B : Kg) (c : Nat) (_ : BOk xs B c) (_ : xs.length + t.text.length ≤ Bg) (L : Bj),
  Fun Tryz.prog 93 [.agg cs.toArray, .pointer (some ⟨b, 0, none⟩)] I (Vr b pre xs B c L)
  (fun v I' L' => v = .tuple #[] ∧ I = I' ∧ ∃ B' c', BOk (xs ++ t.text) B' c' ∧ L' = Vr b true (xs ++ t.text) B' c' L) := by
 intro n
 induction n with
 | zero => intro I t cs h; omega
 | succ n ihn =>
  intro I t cs hlt h b pre xs B c hB hz L; obtain ⟨oa, cc, vs, rfl, hl, hs, hn, hc, ha, hp⟩ := h.open
  unfold Bg at hp
  refine Ao Ae ?_; refine Se rfl ?_; refine Cm rfl rfl .free rfl ?_; intro b2; refine Ab (Ah (Se rfl ?_)); refine C1 rfl .free rfl ?_; refine Ca rfl (B8 h _) ?_; rintro _ _ _ _ ⟨rfl, rfl, rfl⟩; refine Ab ?_; refine Si rfl ?_ ?_
  ·intro c0
   have hta := t.text_atom Fv
   refine Se rfl (Om rfl ?_)
   first | refine Oh rfl ?_ | refine Oj rfl ?_
   refine C1 rfl .free rfl ?_; refine C4 (fun w h => Mem.bl1 h) ?_; refine Ca rfl (Dg b pre xs B c t.atom hB (by rw [← hta]; exact hz) _ _) ?_; rintro _ _ _ _ ⟨rfl, rfl, B1, c1, hB1, rfl⟩; refine Ab ?_; refine Am .nil ?_
   exact ⟨I, _, .refl _, fun w h => (Mem.br1 h).drop, rfl, rfl, B1, c1, by rw [hta]; exact hB1, by rw [hta]; rfl⟩
  intro c0
  have hne : t.parts ≠ [] := by simpa using c0
  have htx := t.text_eq hne
  have hz' := hz
  rw [htx] at hz'
  simp only [List.length_append, List.length_cons, List.length_nil] at hz'
  refine Ak (Ah (Se rfl ?_))
  first | refine Oh rfl ?_ | refine Oj rfl ?_
  refine C1 rfl .free rfl ?_; refine On rfl (Om rfl (Ab (Aq ?_))); refine Dn (X := WS) (fun x => t.parts.length - x.i) (fun x => [(1, .pointer (some ⟨b, 0, none⟩)), (13, .slice oa t.parts.length cc), (14, .int .i64 (t.parts.length : Nat)), (15, .int .i64 (x.i : Nat))]) (fun _ => I) (fun x => Vr b x.pre (xs ++ H3 (t.parts.take x.i)) x.B x.c L)
   (fun x => x.i ≤ t.parts.length ∧ BOk (xs ++ H3 (t.parts.take x.i)) x.B x.c ∧ (x.i = t.parts.length → x.pre = true)) ⟨0, pre, B, c⟩ ⟨by simp, by simpa [H3] using hB, fun hh => by simp only at hh; exact absurd (List.length_eq_zero_iff.1 hh.symm) hne⟩ ⟨rfl, rfl, rfl, rfl, trivial⟩ (fun w hh => by simpa [H3] using hh.drop) ?_
  rintro x ⟨hi, hxB, hxp⟩ ih; refine Se rfl (Oc rfl rfl rfl (Ab (Ah ?_))); refine Si rfl ?_ ?_
  ·intro c1; obtain ⟨x', hx, oa', c', hr, hst⟩ := Rep.at hl hs hn x.i Aa
   have htk := Tg t.parts x.i Aa
   have hlk := U8 t.parts (x.i + 1)
   rw [htk] at hlk
   simp only [List.length_append, List.length_cons] at hlk
   refine Ak (Ah (Aq (Se rfl (Om rfl ?_)))); refine Ck rfl rfl _ rfl Bx Dp .free rfl ?_; refine C1 rfl .free rfl ?_; refine A1 .free rfl ?_; intro b5; refine Oa rfl ?_; refine By rfl rfl rfl rfl .free ?_; refine Ab (Ah (Se rfl (Om rfl (Oc rfl rfl rfl (Ab ?_))))); refine Si rfl ?_ ?_
   ·intro c2; refine Al rfl (Om rfl ?_); refine C4 (fun w h => Mem.bl1 h) ?_; refine Ca rfl (F3 b x.pre _ x.B x.c 40 hxB (by rw [List.length_append]; unfold Bg at *; omega) _ _) ?_; rintro _ _ _ _ ⟨rfl, rfl, B1, c1, hB1, rfl⟩
    have e : xs ++ H3 (t.parts.take (x.i + 1)) = xs ++ H3 (t.parts.take x.i) ++ [40] ++ t.parts[x.i].text := by rw [htk, if_pos Aa]; simp
    refine C4 (fun w h => Mem.br1 h) ?_; refine Ab (Al rfl ?_); refine C1 rfl .free rfl ?_; refine Om rfl ?_; refine C4 (fun w h => Mem.bl1 h) ?_; refine Ca rfl (ihn (by have := t.part_lt x.i Aa; omega) hr b true _ B1 c1 hB1 (by simp only [List.length_append, List.length_cons, List.length_nil]; unfold Bg at *; omega) _) ?_; rintro _ _ _ _ ⟨rfl, rfl, B2, c2', hB2, rfl⟩; refine C4 (fun w h => (Mem.br1 h).drop) ?_; refine Ab (Ap (Al rfl ?_)); refine Or rfl rfl rfl ?_; refine Om rfl (Ab ?_)
    refine Cu (fun w hh => ?_) (Ed (E' := [(1, .pointer (some ⟨b, 0, none⟩)), (13, .slice oa t.parts.length cc), (14, .int .i64 (t.parts.length : Nat)), (15, .int .i64 ((x.i + 1 : Nat)))]) ⟨rfl, rfl, rfl, rfl, trivial⟩ (ih ⟨x.i + 1, true, B2, c2'⟩ ⟨by simp only; omega, by simp only; rw [e]; exact hB2, fun _ => rfl⟩ Dq))
    simp only; rw [e]; exact hh
   intro c2; refine Al rfl (Om rfl ?_); refine C4 (fun w h => Mem.bl1 h) ?_; refine Ca rfl (F3 b x.pre _ x.B x.c 32 hxB (by rw [List.length_append]; unfold Bg at *; omega) _ _) ?_; rintro _ _ _ _ ⟨rfl, rfl, B1, c1, hB1, rfl⟩
   have e : xs ++ H3 (t.parts.take (x.i + 1)) = xs ++ H3 (t.parts.take x.i) ++ [32] ++ t.parts[x.i].text := by rw [htk, if_neg Aa]; simp
   refine C4 (fun w h => Mem.br1 h) ?_; refine Ab (Al rfl ?_); refine C1 rfl .free rfl ?_; refine Om rfl ?_; refine C4 (fun w h => Mem.bl1 h) ?_; refine Ca rfl (ihn (by have := t.part_lt x.i Aa; omega) hr b true _ B1 c1 hB1 (by simp only [List.length_append, List.length_cons, List.length_nil]; unfold Bg at *; omega) _) ?_; rintro _ _ _ _ ⟨rfl, rfl, B2, c2', hB2, rfl⟩; refine C4 (fun w h => (Mem.br1 h).drop) ?_; refine Ab (Ap (Al rfl ?_)); refine Or rfl rfl rfl ?_; refine Om rfl (Ab ?_)
   refine Cu (fun w hh => ?_) (Ed (E' := [(1, .pointer (some ⟨b, 0, none⟩)), (13, .slice oa t.parts.length cc), (14, .int .i64 (t.parts.length : Nat)), (15, .int .i64 ((x.i + 1 : Nat)))]) ⟨rfl, rfl, rfl, rfl, trivial⟩ (ih ⟨x.i + 1, true, B2, c2'⟩ ⟨by simp only; omega, by simp only; rw [e]; exact hB2, fun _ => rfl⟩ Dq))
   simp only; rw [e]; exact hh
  intro c1
  have hxi : x.i = t.parts.length := by omega
  rw [hxi, List.take_length] at hxB; refine Cc rfl ?_; rw [hxi, List.take_length]; refine Al rfl (Om rfl ?_); refine Ca rfl (F3 b x.pre _ x.B x.c 41 hxB (by rw [List.length_append]; unfold Bg at *; omega) _ _) ?_; rintro _ _ _ _ ⟨rfl, rfl, B1, c1, hB1, rfl⟩; refine Ab ?_; refine Ju .nil ?_; refine ⟨I, _, .refl _, fun w h => h, rfl, rfl, B1, c1, ?_, ?_⟩
  ·rw [htx, ← List.append_assoc]; exact hB1
  ·rw [htx, ← List.append_assoc]

theorem Xr {I : Heap} {t : Tree} {cs : List Value} (h : Rep I t cs) (hz : t.text.length ≤ Bg) (L : Bj) : Fun Tryz.prog 49 [.agg cs.toArray] I L (E2 (.string (str t.text)) I L) := by
 obtain ⟨oa, c, vs, rfl, hl, hs, hn, hc, ha, hp⟩ := h.open; refine Ao Ae ?_; refine Se rfl ?_; refine Cm rfl rfl .free rfl ?_; intro b1; refine Oa rfl (Ab (Se rfl ?_)); refine A1 .free rfl ?_; intro b3; refine Ab (Se rfl ?_); refine C1 rfl .free rfl ?_; refine C4 (fun w hh => Mem.f1 hh) ?_; refine C4 (L' := Vr b3 false [] none 0 _) (fun w hh => Mem.f1 hh) ?_; refine Ca rfl (V7 _ (Nat.lt_succ_self _) h b3 false [] none 0 ⟨⟨rfl, rfl, rfl⟩, .inl rfl⟩ (by simpa using hz) _) ?_; rintro _ _ _ _ ⟨rfl, rfl, B1, c1, hB1, rfl⟩; refine Ab (Se rfl ?_)
 refine Ca rfl (H5 b3 true _ B1 c1 hB1 (by simpa using hz) _ _) ?_; rintro _ _ _ _ ⟨rfl, rfl, rfl⟩; refine Oa rfl (Ab (Am (.tmp rfl .nil) ?_)); refine only rfl ?_
 simp [C2, *]
def sv (s : As) : Value := .string (str s)
structure Strs (I : Heap) (oa : Option Addr) (l : List As) (c : Nat) : Prop where
 still : ∀ x, oa = some x → Still I x (l.map sv)
 nil : oa = none → l = []
 cap : l.length ≤ c
 len : l.length ≤ Bg
 each : ∀ s ∈ l, s.length ≤ Bg
theorem Strs.mono {I I' : Heap} {oa : Option Addr} {l : List As} {c : Nat} (hle : HLe I I') (h : Strs I oa l c) : Strs I' oa l c :=
 ⟨fun x hx => (h.still x hx).mono hle, h.nil, h.cap, h.len, h.each⟩
theorem Strs.at {I : Heap} {oa : Option Addr} {l : List As} {c : Nat} (h : Strs I oa l c) (i : Nat) (hi : i < l.length) : ∃ x, oa = some x ∧ Still I (x.add (i * 1)) [.string (str l[i])] := by
 cases oa with
 | none => have := h.nil rfl; subst this; simp at hi
 | some x =>
  refine ⟨x, rfl, (h.still x rfl).part (i * 1) ?_⟩; intro j hj; obtain rfl : j = 0 := by simpa using hj
  simp [hi, sv]

def Fz (l : List As) (s : As) : Nat → Option Nat
 | 0 => none
 | n + 1 => if l.getD n [] = s then some n else Fz l s n
def B7 (l : List As) (s : As) : Option Nat := Fz l s l.length
theorem Ki {l : List As} {s : As} : ∀ {n i : Nat}, Fz l s n = some i → i < n ∧ l.getD i [] = s := by
 intro n
 induction n with
 | zero => intro i h; simp [Fz] at h
 | succ n ih =>
  intro i h
  simp only [Fz] at h
  split at h
  ·simp at h; subst h; exact ⟨by omega, by assumption⟩
  ·have := ih h; exact ⟨by omega, this.2⟩
def Zn : Option Nat → Int
 | some i => i
 | none => -1

theorem Xu {I : Heap} {oa : Option Addr} {l : List As} {c : Nat} (h : Strs I oa l c) (s : As) (L : Bj) : Fun Tryz.prog 130 [.slice oa l.length c, .string (str s)] I L (E2 (.int .i64 (Zn (B7 l s))) I L) := by
 have hlen := h.len
 unfold Bg at hlen
 refine Ao Ae ?_; refine Se rfl (Oa rfl (Ab (Ah (Se rfl (Om rfl (On rfl ?_)))))); refine Or rfl rfl rfl ?_; refine Oa rfl (Ab (Aq ?_)); refine Dn (X := Nat) (fun n => n) (fun n => [(0, .slice oa l.length c), (1, .string (str s)), (5, .int .i64 ((n : Int) - 1))]) (fun _ => I) (fun _ => L) (fun n => n ≤ l.length ∧ B7 l s = Fz l s n) l.length ⟨Nat.le_refl _, rfl⟩ ⟨rfl, rfl, rfl, trivial⟩ Cl ?_; rintro n ⟨hn, hl⟩ ih; refine Ah (Se rfl (Om rfl (Oc rfl rfl rfl (Ab ?_)))); refine Si rfl ?_ ?_
 ·intro c0; obtain ⟨m, rfl⟩ : ∃ m, n = m + 1 := ⟨n - 1, by omega⟩; obtain ⟨x, hx, hst⟩ := h.at m Aa; refine Jv (t := 5) (v' := .int .i64 (m : Nat)) rfl F7 ?_
  simp only [Fz, List.getD_eq_getElem?_getD, List.getElem?_eq_getElem (show m < l.length by omega), Option.getD_some] at hl
  refine Ak (Ah (Aq (Se rfl (Om rfl (Om rfl ?_))))); refine Ck rfl rfl _ rfl Bx Dp .free rfl ?_; refine C1 rfl .free rfl ?_; refine Om rfl (Od rfl rfl rfl (Ab ?_)); refine Si rfl ?_ ?_
  ·intro c1; refine Se rfl (Om rfl (Oa rfl (Ab (Am (.tmp rfl .nil) ?_)))); refine only rfl ?_; rw [hl, if_pos Df]; rfl
  intro c1; refine Ak (Ap (Al rfl (Om rfl ?_))); refine Or rfl rfl rfl ?_; refine Oa rfl (Ab ?_); refine Ed (E' := [(0, .slice oa l.length c), (1, .string (str s)), (5, .int .i64 ((m : Int) - 1))]) ⟨rfl, rfl, rfl, trivial⟩ (ih m ⟨by omega, ?_⟩ Aa); rw [hl, if_neg Df]
 intro c0; refine Cc rfl ?_; refine Se rfl (Oa rfl (Ab (Am (.tmp rfl .nil) ?_))); refine only rfl ?_; obtain rfl : n = 0 := by omega
 rw [hl]; rfl

def Wg (names types : List As) (s : As) : As := match B7 names s with
 | some i => types.getD i []
 | none => []
theorem Adg {I : Heap} {oa ob : Option Addr} {l m : List As} {c c' : Nat} (h : Strs I oa l c) (h' : Strs I ob m c') (hlm : l.length = m.length) (s : As) (L : Bj) :
  Fun Tryz.prog 194 [.slice oa l.length c, .slice ob m.length c', .string (str s)] I L (E2 (.string (str (Wg l m s))) I L) := by
 have hlen := h.len
 unfold Bg at hlen
 refine Ao Ae ?_; refine Se rfl (Oa rfl (Ab (Ah (Se rfl (Om rfl (On rfl ?_)))))); refine Or rfl rfl rfl ?_; refine Oa rfl (Ab (Aq ?_)); refine Dn (X := Nat) (fun n => n) (fun n => [(0, .slice oa l.length c), (1, .slice ob m.length c'), (2, .string (str s)), (7, .int .i64 ((n : Int) - 1))]) (fun _ => I) (fun _ => L) (fun n => n ≤ l.length ∧ B7 l s = Fz l s n) l.length ⟨Nat.le_refl _, rfl⟩ ⟨rfl, rfl, rfl, rfl, trivial⟩ Cl ?_; rintro n ⟨hn, hl⟩ ih; refine Ah (Se rfl (Om rfl (Oc rfl rfl rfl (Ab ?_)))); refine Si rfl ?_ ?_
 ·intro c0; obtain ⟨k, rfl⟩ : ∃ k, n = k + 1 := ⟨n - 1, by omega⟩; obtain ⟨x, hx, hst⟩ := h.at k Aa; obtain ⟨y, hy, hst'⟩ := h'.at k Aa; refine Jv (t := 7) (v' := .int .i64 (k : Nat)) rfl F7 ?_
  simp only [Fz, List.getD_eq_getElem?_getD, List.getElem?_eq_getElem (show k < l.length by omega), Option.getD_some] at hl
  refine Ak (Ah (Aq (Se rfl (Om rfl (Om rfl ?_))))); refine Ck rfl rfl _ rfl Bx Dp .free rfl ?_; refine C1 rfl .free rfl ?_; refine Om rfl (Od rfl rfl rfl (Ab ?_)); refine Si rfl ?_ ?_
  ·intro c1; refine Se rfl (Om rfl (Om rfl ?_)); refine Ck rfl rfl _ rfl Bx Dp .free rfl ?_; refine C1 rfl .free rfl ?_; refine Oa rfl (Ab (Am (.tmp rfl .nil) ?_)); refine only rfl ?_; rw [if_pos Df] at hl
   simp only [Wg, hl]; simp [C2, show k < m.length by omega]
  intro c1; refine Ak (Ap (Al rfl (Om rfl ?_))); refine Or rfl rfl rfl ?_; refine Oa rfl (Ab ?_); refine Ed (E' := [(0, .slice oa l.length c), (1, .slice ob m.length c'), (2, .string (str s)), (7, .int .i64 ((k : Int) - 1))]) ⟨rfl, rfl, rfl, rfl, trivial⟩ (ih k ⟨by omega, ?_⟩ Aa); rw [hl, if_neg Df]
 intro c0; refine Cc rfl ?_; refine Se rfl (Oa rfl (Ab (Am (.tmp rfl .nil) ?_))); refine only rfl ?_; obtain rfl : n = 0 := by omega
 simp only [Wg, hl, Fz]; rfl

def Aam (names types : List As) : Bool := decide (names.length ≤ 8) && decide (names.length = types.length) && names.all B0 && types.all fun s => (J7 s).isSome
structure ES where
 I : Heap
 i : Nat
 ts : List Tree
 B : Kg
 c : Nat
 xs : List Value
structure Aif (I : Heap) (l m : List As) (x : ES) : Prop where
 hle : HLe I x.I
 hrl : RepL x.I x.ts x.xs
 hB : Dd 2 x.i x.c x.xs x.B
 hlen : x.i = x.ts.length
 hi : x.i ≤ m.length
 hts : (m.take x.i).map J7 = x.ts.map some
 hall : (l.take x.i).all B0 = true

def RE (oa : Option Addr) (l m : List As) (c : Nat) (L : Bj) : Cv := fun v I' L' => ∃ oa' n c2 ob' ts c3, v = .tuple #[.agg [.slice oa' n c2, .slice ob' (List.length ts) c3].toArray, .bool (Aam l m)] ∧ L = L' ∧
 Rep I' (.node [] ts) [.string (str []), .slice ob' ts.length c3] ∧ (Aam l m = true → oa' = oa ∧ n = l.length ∧ c2 = c ∧ m.map J7 = ts.map some)
def LK (o : Option Nat) (ts : List Tree) (I : Heap) (L : Bj) : Cv := fun v I' L' => ∃ t cs ok, v = .tuple #[.agg cs.toArray, .bool ok] ∧ I = I' ∧ L = L' ∧ Rep I t cs ∧ ok = o.isSome ∧ ∀ i, o = some i → ts[i]? = some t
def Ahu (l m : List As) (s : As) : Option As := bif Aam l m then (B7 l s).map fun i => m.getD i [] else none
def EL (o : Option As) (L : Bj) : Cv := fun v I' L' => v = .tuple #[.string (str (o.getD [])), .bool o.isSome] ∧ L = L'
section rules
variable {P : Program} {f : FuncId} {n : Nat} {I₀ : Heap} {Q : Cv} {k : List Item} {E : Hg} {I : Heap} {L : Bj}
variable {ops : Array Oper} {d : Nat} {ty : TypeId} {pos : String} {af : Array Edge} {g : Option (Nat × Bool)} {l : List Oper}

theorem Q3 {op : BinOp} {T : TypeId} {x y : Operand} {a b : Bool} (w : World) : (eqGuard op T x y (.bool a) (.bool b)).run P w = .ok () w := by
 unfold eqGuard; split <;> rfl
def Vu : BinOp → Bool → Bool → Option Bool
 | .eql, a, b => some (a == b)
 | .neq, a, b => some (!(a == b))
 | _, _, _ => none
theorem Ag1 {S : World → Prop} {op : BinOp} {T T' sz bb : Nat} {z : List Value} [ht : At P T .bool sz bb z] {x y : Operand} {a b r : Bool} (hx : Ch E x = some (.bool a)) (hy : Ch E y = some (.bool b)) (hr : Vu op a b = some r) :
  Ia P E S ⟨some d, .binOp op T x y T', ty, pos, af, g⟩ (.bool r) := fun ac w he _ => by
 simp only [execOp, he.eval hx, he.eval hy]
 refine Ag (a := _) (w' := w) ?_ |>.trans rfl
 rw [Ag (Q3 w)]
 have h : ∀ d : Nat, (Op.equalIn (d + 1) T (.bool a) (.bool b)).run P w = .ok (a == b) w := fun d => by
  unfold Op.equalIn
  rw [Ag (A3 ht.und w)]
  rfl
 cases op <;> simp only [Vu, Option.some.injEq, reduceCtorEq] at hr
 ·subst hr
  simp only [binOp, Op.equal]
  exact Ag (h 9999) |>.trans rfl
 ·subst hr
  simp only [binOp, Op.equal]
  exact Ag (h 9999) |>.trans rfl
theorem Ad4 {op : BinOp} {T T' sz bb : Nat} {z : List Value} [ht : At P T .bool sz bb z] {x y : Operand} {a b r : Bool} (hx : Ch E x = some (.bool a)) (hy : Ch E y = some (.bool b)) (hr : Vu op a b = some r) (hg : Wants ops E g) (hdn : Nat.blt d n = true)
  (h : A8 P f n I₀ Q ops l k ((d, .bool r) :: E) I L) : A8 P f n I₀ Q ops (⟨some d, .binOp op T x y T', ty, pos, af, g⟩ :: l) k E I L := Es (Ag1 hx hy hr) hg hdn h

theorem F5 {S : World → Prop} {T e : TypeId} {sz bb esz ebb : Nat} {z ez : List Value} {dd : TypeDesc} [ht : At P T (.slice e) sz bb z] [hte : At P e dd esz ebb ez] {x y : Operand} {oa : Option Addr} {ad : Addr} {m c : Nat} {i : Int}
  (hx : Ch E x = some (.slice oa m c)) (hy : Ch E y = some (.int .i64 i)) (i' : Nat) (hi : i = i') (him : i' < m) (hoa : oa = some ad) : Ia P E S ⟨some d, .indexAddr T x y, ty, pos, af, g⟩ (.pointer (some (ad.add (i' * esz)))) :=
 Rs (hoa ▸ hx) hy i' hi him

end rules
structure Raw (I : Heap) (oa : Option Addr) (l : List As) (c : Nat) : Prop where
 still : ∀ x, oa = some x → Still I x (l.map sv)
 nil : oa = none → l = []
 cap : l.length ≤ c
 len : l.length ≤ 9223372036854775807
 each : ∀ s ∈ l, s.length ≤ 9223372036854775807
theorem Raw.at {I : Heap} {oa : Option Addr} {l : List As} {c : Nat} (h : Raw I oa l c) (i : Nat) (hi : i < l.length) : ∃ x, oa = some x ∧ Still I (x.add (i * 1)) [.string (str l[i])] := by
 cases oa with
 | none => have := h.nil rfl; subst this; simp at hi
 | some x =>
  refine ⟨x, rfl, (h.still x rfl).part (i * 1) ?_⟩; intro j hj; obtain rfl : j = 0 := by simpa using hj
  simp [hi, sv]

def SZ (left : Nat) (l : List As) (I : Heap) (L : Bj) : Cv := fun v I' L' => ∃ r : Int, v = .int .i64 r ∧ I = I' ∧ L = L' ∧ r ≤ left ∧ (0 ≤ r → l.length ≤ left ∧ ∀ s ∈ l, s.length ≤ left)
def TS (l : List As) (L : Bj) : Cv := fun v I' L' => ∃ x, v = .slice (some x) l.length l.length ∧ Strs I' (some x) l l.length ∧ L = L'
section rules
variable {P : Program} {f : FuncId} {n : Nat} {I₀ : Heap} {Q : Cv} {k : List Item} {E : Hg} {I : Heap} {L : Bj}
variable {ops : Array Oper} {d : Nat} {ty : TypeId} {pos : String} {af : Array Edge} {g : Option (Nat × Bool)} {l : List Oper}

theorem Aax {S : World → Prop} {T T' : TypeId} {x y : Operand} {a b : Nat} (hx : Ch E x = some (.int .i64 (a : Nat))) (hy : Ch E y = some (.int .i64 (b : Nat))) (hb : 0 < b) :
  Ia P E S ⟨some d, .binOp .rem T x y T', ty, pos, af, g⟩ (.int .i64 ((a % b : Nat))) := fun ac w he _ => by
 simp only [execOp, he.eval hx, he.eval hy]
 refine Ag (a := _) (w' := w) ?_ |>.trans rfl
 rw [Ag (F0 w)]
 have h0 : ¬ ((b : Int) = 0) := by omega
 have h1 : ((a : Int).tmod (b : Int)) = ((a % b : Nat) : Int) := by rw [Int.ofNat_tmod]
 simp only [binOp, Op.intDiv, if_neg h0, h1, ne_eq, not_true_eq_false, if_false]; rfl
theorem Aga {T T' : TypeId} {x y : Operand} {a b : Nat} (hx : Ch E x = some (.int .i64 (a : Nat))) (hy : Ch E y = some (.int .i64 (b : Nat))) (hb : 0 < b) (hg : Wants ops E g) (hdn : Nat.blt d n = true)
  (h : A8 P f n I₀ Q ops l k ((d, .int .i64 ((a % b : Nat))) :: E) I L) : A8 P f n I₀ Q ops (⟨some d, .binOp .rem T x y T', ty, pos, af, g⟩ :: l) k E I L := Es (Aax hx hy hb) hg hdn h
theorem Aey {S : World → Prop} {T T' : TypeId} {x y : Operand} {a b : Nat} (hx : Ch E x = some (.int .i64 (a : Nat))) (hy : Ch E y = some (.int .i64 (b : Nat))) (hb : 0 < b) (ha : a ≤ 9223372036854775807) :
  Ia P E S ⟨some d, .binOp .quo T x y T', ty, pos, af, g⟩ (.int .i64 ((a / b : Nat))) := fun ac w he _ => by
 simp only [execOp, he.eval hx, he.eval hy]
 refine Ag (a := _) (w' := w) ?_ |>.trans rfl
 rw [Ag (F0 w)]
 have h0 : ¬ ((b : Int) = 0) := by omega
 have h1 : ((a : Int).tdiv (b : Int)) = ((a / b : Nat) : Int) := by rw [Int.ofNat_tdiv]
 have h2 : IntKind.i64.wrap ((a / b : Nat) : Int) = ((a / b : Nat) : Int) := by
  obtain ⟨q, hq, hle⟩ : ∃ q, q = a / b ∧ q ≤ a := ⟨_, rfl, Nat.div_le_self a b⟩; rw [← hq]; exact P6 Aa
 simp only [binOp, Op.intDiv, if_neg h0, h1, h2, ne_eq, not_true_eq_false, if_false]; rfl
theorem Ahh {T T' : TypeId} {x y : Operand} {a b : Nat} (hx : Ch E x = some (.int .i64 (a : Nat))) (hy : Ch E y = some (.int .i64 (b : Nat))) (hb : 0 < b) (ha : a ≤ 9223372036854775807) (hg : Wants ops E g) (hdn : Nat.blt d n = true)
  (h : A8 P f n I₀ Q ops l k ((d, .int .i64 ((a / b : Nat))) :: E) I L) : A8 P f n I₀ Q ops (⟨some d, .binOp .quo T x y T', ty, pos, af, g⟩ :: l) k E I L := Es (Aey hx hy hb ha) hg hdn h
theorem Ahp {S : World → Prop} {T T' : TypeId} {x y : Operand} {a b : Nat} (hx : Ch E x = some (.int .i64 (a : Nat))) (hy : Ch E y = some (.int .i64 (b : Nat))) (ha : a ≤ 9223372036854775807) (hb : b ≤ 9223372036854775807) :
  Ia P E S ⟨some d, .binOp .xor T x y T', ty, pos, af, g⟩ (.int .i64 ((a ^^^ b : Nat))) := fun ac w he _ => by
 simp only [execOp, he.eval hx, he.eval hy]
 refine Ag (a := _) (w' := w) ?_ |>.trans rfl
 rw [Ag (F0 w)]
 have hn : ∀ c : Nat, c ≤ 9223372036854775807 → (BitVec.ofInt 64 (c : Int)).toNat = c := fun c hc => by
  rw [BitVec.ofInt_natCast, BitVec.toNat_ofNat]; exact Nat.mod_eq_of_lt (by omega)
 have hlt : a ^^^ b < 2 ^ 63 := Nat.xor_lt_two_pow (by omega) (by omega)
 have h1 : (BitVec.ofInt IntKind.i64.bits (a : Int) ^^^ BitVec.ofInt IntKind.i64.bits (b : Int)).toNat = a ^^^ b := by
  show (BitVec.ofInt 64 (a : Int) ^^^ BitVec.ofInt 64 (b : Int)).toNat = _
  rw [BitVec.toNat_xor, hn a ha, hn b hb]
 have h2 : IntKind.i64.wrap ((a ^^^ b : Nat) : Int) = ((a ^^^ b : Nat) : Int) := P6 Aa
 simp only [binOp, Op.intBits, h1, h2, ne_eq, not_true_eq_false, if_false]; rfl
theorem Ahi {T T' : TypeId} {x y : Operand} {a b : Nat} (hx : Ch E x = some (.int .i64 (a : Nat))) (hy : Ch E y = some (.int .i64 (b : Nat))) (ha : a ≤ 9223372036854775807) (hb : b ≤ 9223372036854775807) (hg : Wants ops E g) (hdn : Nat.blt d n = true)
  (h : A8 P f n I₀ Q ops l k ((d, .int .i64 ((a ^^^ b : Nat))) :: E) I L) : A8 P f n I₀ Q ops (⟨some d, .binOp .xor T x y T', ty, pos, af, g⟩ :: l) k E I L := Es (Ahp hx hy ha hb) hg hdn h

theorem Q9 {S : World → Prop} {src dst sz bb sz2 bb2 : Nat} {z z2 : List Value} [hs : At P src (.int .u8) sz bb z] [hd : At P dst (.int .i64) sz2 bb2 z2] {x : Operand} {a : Nat} (hx : Ch E x = some (.int .u8 (a : Nat))) (ha : a < 256) :
  Ia P E S ⟨some d, .convert src dst x, ty, pos, af, g⟩ (.int .i64 (a : Nat)) := fun ac w he _ => by
 simp only [execOp, he.eval hx]
 refine Ag (a := .int .i64 (a : Nat)) (w' := w) ?_ |>.trans rfl
 unfold convert
 rw [Ag (A3 hs.und w), Ag (A3 hd.und w)]
 simp only [Conv.intToInt]
 rw [P6 (by omega)]
 rfl
theorem N3 {src dst sz bb sz2 bb2 : Nat} {z z2 : List Value} [hs : At P src (.int .u8) sz bb z] [hd : At P dst (.int .i64) sz2 bb2 z2] {x : Operand} {a : Nat} (hx : Ch E x = some (.int .u8 (a : Nat))) (ha : a < 256) (hg : Wants ops E g) (hdn : Nat.blt d n = true)
  (h : A8 P f n I₀ Q ops l k ((d, .int .i64 (a : Nat)) :: E) I L) : A8 P f n I₀ Q ops (⟨some d, .convert src dst x, ty, pos, af, g⟩ :: l) k E I L := Es (Q9 hx ha) hg hdn h
end rules

structure Bytes (I : Heap) (oa : Option Addr) (l : List UInt8) (c : Nat) : Prop where
 still : ∀ x, oa = some x → Still I x (l.map bv)
 nil : oa = none → l = []
 cap : l.length ≤ c
 len : l.length ≤ 9223372036854775807
theorem Bytes.mono {I I' : Heap} {oa : Option Addr} {l : List UInt8} {c : Nat} (hle : HLe I I') (h : Bytes I oa l c) : Bytes I' oa l c :=
 ⟨fun x hx => (h.still x hx).mono hle, h.nil, h.cap, h.len⟩
theorem Bytes.at {I : Heap} {oa : Option Addr} {l : List UInt8} {c : Nat} (h : Bytes I oa l c) (i : Nat) (hi : i < l.length) : ∃ x, oa = some x ∧ Still I (x.add (i * 1)) [.int .u8 (l[i].toNat : Nat)] := by
 cases oa with
 | none => have := h.nil rfl; subst this; simp at hi
 | some x =>
  refine ⟨x, rfl, (h.still x rfl).part (i * 1) ?_⟩; intro j hj; obtain rfl : j = 0 := by simpa using hj
  simp [hi, bv]
end Go.Proofs.YtmfagaajiakgoaaGreatDoor
