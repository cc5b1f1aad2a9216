/- What reading a whole text returns. No conditions. -/
import Derived.Test.YtbmgbhfeifgciaaDoorG3
import Derived.Lib.Builder
import Derived.Lib.UnsafeStr
import Derived.Laws.MakeOwn

namespace Go.Proofs.YtbmgbhfeifgciaaDoor
set_option maxRecDepth 100000
set_option linter.unusedVariables false
set_option linter.unusedSimpArgs false

def RD (p : Option Tree) (L : At ) : A5   := fun v I' L' => ∃ t cs ok, v = .tuple #[.agg cs.toArray, .bool ok] ∧ Rep I' t cs ∧ L = L' ∧
  (match p with
   | some t0 => ok = true ∧ t = t0
   | none => ok = false)

theorem Mv (s : Af) (hs : s.length ≤ As) (I : Heap) (L : At) : Fun Tryd.prog 15 [.string (str s)] I L (RD (Bv s) L) := by
 unfold As at hs
 refine Ag (by simp) ?_; refine Se rfl ?_; refine Bm .free rfl ?_; intro b2; refine Oa rfl (Aa (Ai (Se rfl (Om rfl ?_)))); refine Aw rfl .free rfl ?_; refine Oc rfl rfl rfl (Aa ?_); refine Si rfl ?_ ?_
 ·intro c0; refine Se rfl ?_; refine Dh rfl rfl rfl .free rfl ?_; refine Cl rfl rfl rfl rfl .free ?_; refine Oa rfl (Aa ?_); refine Ac (.c rfl (.tmp rfl .nil)) ?_
  exact ⟨I, L, .refl _, fun _ h => h.drop, .node [] [], _, false, rfl, Rep.empty I, rfl, by rw [Bv, if_pos (by omega)]⟩
 intro c0; refine Aj (Se rfl (Om rfl ?_)); refine Ca rfl (Mw 60 s (by omega) 0 rfl _ _) ?_; rintro _ J _ hleJ ⟨t, cs, r, ok, rfl, hrep, rfl, hrlen, hpf⟩; obtain ⟨oa, cc, vs, rfl, -⟩ := hrep.open; refine Om rfl ?_
 iterate 3 refine Oe rfl rfl ?_
 refine Bm .free rfl ?_; intro b4; refine Cl rfl rfl rfl rfl .free ?_; refine Oa rfl (Oa rfl (Aa (Se rfl ?_))); refine B7 rfl .free rfl ?_; refine Om rfl (Om rfl ?_)
 first | refine Fa rfl rfl ?_ ?_ | refine De rfl rfl ?_ ?_ | refine Jq rfl rfl ?_ ?_
 ·intro g4_3; refine Ow rfl ?_; refine Ef rfl rfl rfl (.met rfl rfl) rfl ?_; refine Ot rfl rfl ?_; refine Cl rfl rfl rfl rfl .free ?_; refine Oa rfl (Aa ?_); refine Ac (.c rfl (.tmp rfl .nil)) ?_; refine ⟨J, L, hleJ, fun _ h => h.drop.drop, t, _, _, rfl, hrep, rfl, ?_⟩; rw [Bv, if_neg (by omega)]
  cases hp : Bg 60 s with
  | none => simp_all
  | some p =>
   obtain ⟨t0, r0⟩ := p; rw [hp] at hpf; obtain ⟨rfl, rfl, rfl⟩ := hpf
   cases r <;> simp_all
 intro g4_3; refine A9 rfl rfl rfl ?_; refine A9 rfl rfl rfl ?_; refine Of rfl rfl ?_; refine Cl rfl rfl rfl rfl .free ?_; refine Oa rfl (Aa ?_); refine Ac (.c rfl (.tmp rfl .nil)) ?_; refine ⟨J, L, hleJ, fun _ h => h.drop.drop, t, _, _, rfl, hrep, rfl, ?_⟩; rw [Bv, if_neg (by omega)]
 cases hp : Bg 60 s with
 | none => simp_all
 | some p =>
  obtain ⟨t0, r0⟩ := p; rw [hp] at hpf; obtain ⟨rfl, rfl, rfl⟩ := hpf
  cases r <;> simp_all

def RT (p : Option Tree) (L : At ) : A5   := fun v I' L' => ∃ t cs ok, v = .tuple #[.agg cs.toArray, .bool ok] ∧ Rep I' t cs ∧ L = L' ∧
  (match p with
   | some t0 => ok = t0.typed ∧ t = t0
   | none => ok = false)

def LR (s : Af ) (p : Option (Tree × Af )) (L : At ) : A5   := fun v I' L' => ∃ t cs e, v = .tuple #[.agg cs.toArray, .int .i64 e] ∧ Rep I' t cs ∧ L = L' ∧
  (match p with
   | some (t0, r0) => t = t0 ∧ e = ((s.length - r0.length : Nat) : Int)
   | none => e = -1)
def D1 : Nat → Af → Option (Tree × Af)
 | 0, _ => none
 | k + 1, s => Bg k s
theorem K2 {k : Nat} {s : Af} {t : Tree} {r : Af} (h : D1 k s = some (t, r)) : r <:+ s := by
 cases k with
 | zero => cases h
 | succ k => exact Hd h
theorem N5 {k : Nat} {s : Af} {t : Tree} {r : Af} (h : D1 k s = some (t, r)) : r.length < s.length := by
 cases k with
 | zero => cases h
 | succ k => exact Ke h
theorem Lb : ∀ (n : Nat) (s : Af), Bn (fun _ => none) n s = none
 | 0, _ => rfl
 | n + 1, s => rfl
theorem Lc {k : Nat} {s : Af} (h : (s.getD 0 0).toNat = 40) : Bg k s = (match Bn (D1 k) s.length (s.drop 1) with
  | some (ts, r) => some (.node [] ts, r)
  | none => none) := by
 cases k with
 | zero => rw [Eu h, show D1 0 = fun _ => none from rfl, Lb]
 | succ k => exact Ec h
structure LS where
 I : Heap
 i : Nat
 m : Nat
 ts : List Tree
 B : Hl
 c : Nat
 xs : List Value
 n : Nat
def Sh (k : Nat) (s : Af) (i₀ : Nat) (I₀ : Heap) (x : LS) : Prop := HLe I₀ x.I ∧ RepL x.I x.ts x.xs ∧ Eh 2 x.m x.c x.xs x.B ∧ x.m = x.ts.length ∧ x.i < s.length ∧ s.length - x.i ≤ x.n ∧ x.m + (s.length - x.i) ≤ s.length ∧
 Ip (D1 k) (Bg k (s.drop i₀)) ⟨x.I, s.drop x.i, x.m, x.ts, x.B, x.c, x.xs, x.n⟩
theorem Eo (s : Af) (i n : Nat) : (s.drop i).getD n 0 = s.getD (i + n) 0 := by simp [List.getD_eq_getElem?_getD, List.getElem?_drop]
theorem Gi {s : Af} {p : Option (Tree × Af)} {t : Tree} {cs : List Value} {I : Heap} {L : At} (hr : Rep I t cs) (hp : p = none) : LR s p L (.tuple #[.agg cs.toArray, .int .i64 (-1)]) I L :=
 ⟨t, cs, -1, rfl, hr, rfl, by rw [hp]⟩

theorem Pf : ∀ (k : Nat) (s : Af) (_ : s.length ≤ 12000) (i : Nat) (_ : i ≤ s.length) (depth : Nat) (_ : depth + k = 61) (I : Heap) (L : At),
  Fun Tryd.prog 34 [.string (str s), .int .i64 (i : Nat), .int .i64 (depth : Nat)] I L (LR s (D1 k (s.drop i)) L) := by
 intro k
 induction k with
 | zero =>
  intro s hsl i hi depth hdeep I L; refine Ag (by simp) ?_; refine Se rfl ?_; refine Bm .free rfl ?_; intro b6; refine Oa rfl (Aa (Se rfl ?_)); refine Dh rfl rfl rfl .free rfl ?_; refine Bm .free rfl ?_; intro b8; refine Cl rfl rfl rfl rfl .free ?_; refine Aa (Ai (Se rfl (Om rfl (Oc rfl rfl rfl (Om rfl ?_)))))
  first | refine Sq rfl rfl (by omega) ?_ | refine Sp rfl rfl (by omega) ?_
  iterate 4 refine A9 rfl rfl rfl ?_
  refine Ot rfl rfl (Aa ?_); refine Bk rfl ?_; refine Se rfl ?_; refine B7 rfl .free rfl ?_; refine Cl rfl rfl rfl rfl .free ?_; refine Oa rfl (Aa ?_); refine Ac (.c rfl (.tmp rfl .nil)) ?_
  exact ⟨I, L, .refl _, fun _ h => h.drop.drop, .node [] [], _, -1, rfl, Rep.empty I, rfl, rfl⟩
 | succ k ihk =>
  intro s hsl i hi depth hdeep I L; refine Ag (by simp) ?_; refine Se rfl ?_; refine Bm .free rfl ?_; intro b6; refine Oa rfl (Aa (Se rfl ?_)); refine Dh rfl rfl rfl .free rfl ?_; refine Bm .free rfl ?_; intro b8; refine Cl rfl rfl rfl rfl .free ?_; refine Aa (Ai (Se rfl (Om rfl (Oc rfl rfl rfl (Om rfl ?_)))))
  first | refine So rfl rfl (by omega) ?_ | refine Sn rfl rfl (by omega) ?_
  refine Ow rfl (Ow rfl ?_); refine Aw rfl (.met rfl rfl) rfl ?_; refine A6 rfl rfl rfl (.met rfl rfl) rfl ?_; refine Of rfl rfl (Aa ?_); refine Si rfl ?_ ?_
  ·intro c0; refine Se rfl ?_; refine B7 rfl .free rfl ?_; refine Cl rfl rfl rfl rfl .free ?_; refine Oa rfl (Aa ?_); refine Ac (.c rfl (.tmp rfl .nil)) ?_
   exact ⟨I, L, .refl _, fun _ h => h.drop.drop, Gi (Rep.empty I) (by simp only [D1]; rw [List.drop_eq_nil_of_le (by omega)]; cases k <;> rfl)⟩
  intro c0; refine Aj (Ai (Se rfl (Om rfl (Om rfl ?_)))); refine A2 rfl rfl rfl (by first | omega | exact Ax (by assumption) (by decide) | (simp; done) | (simp; omega) | decide | (simp at *; omega)) .free rfl ?_; refine Oc rfl rfl rfl (Aa ?_); refine Si rfl ?_ ?_
  ·intro c1
   have h40 : ((s.drop i).getD 0 0).toNat ≠ 40 := by rw [Eo]; simp only [Nat.add_zero]; omega
   refine Se rfl (Om rfl (Oa rfl (Aa (Ai (Av ?_))))); refine Cc (X := Nat) (fun n => s.length - i - n) (fun n => [(0, .string (str s)), (1, .int .i64 ((i + n : Nat))), (6, .pointer (some ⟨b6, 0, none⟩)), (8, .pointer (some ⟨b8, 0, none⟩)), (9, .int .i64 (i : Nat))]) (fun _ => I)
    (fun _ => (b8, .cells [.string (str []), .slice none 0 0].toArray 42 (0, 0)) :: (b6, .cells [.string (str []), .slice none 0 0].toArray 42 (0, 0)) :: L) (fun n => i + n ≤ s.length ∧ ((s.drop i).take n).all Ce = true) 0 ⟨by omega, by simp⟩ ⟨rfl, rfl, rfl, rfl, rfl, trivial⟩ (fun _ h => h) ?_
   rintro n ⟨hn, hall⟩ ih; refine Ai (Se rfl (Om rfl (Om rfl ?_))); refine Aw rfl .free rfl ?_; refine Oc rfl rfl rfl (Om rfl ?_)
   first | refine Fa rfl rfl ?_ ?_ | refine De rfl rfl ?_ ?_ | refine Jq rfl rfl ?_ ?_
   ·intro g6_5; refine Ow rfl (Ow rfl ?_); refine A2 rfl rfl rfl (by first | omega | exact Ax (by assumption) (by decide) | (simp; done) | (simp; omega) | decide | (simp at *; omega)) (.met rfl rfl) rfl ?_; refine Bs rfl (.met rfl rfl) rfl (Pe _ _ _) ?_; rintro _ _ _ _ ⟨rfl, rfl, rfl⟩; refine Ot rfl rfl (Aa ?_); refine Si rfl ?_ ?_
    ·intro c2; refine Aj (Av (Ap rfl (Om rfl ?_))); refine Or rfl rfl rfl ?_; refine Oa rfl (Aa (Ar ?_)); refine B4 (E' := [(0, .string (str s)), (1, .int .i64 ((i + (n + 1) : Nat))), (6, .pointer (some ⟨b6, 0, none⟩)), (8, .pointer (some ⟨b8, 0, none⟩)), (9, .int .i64 (i : Nat))]) ⟨rfl, rfl, rfl, rfl, rfl, trivial⟩ (ih (n + 1) ⟨by omega, Ew hall (by rw [List.length_drop]; omega) (by rw [Eo]; assumption)⟩ (by omega))
    intro c2; refine C0 rfl ?_; refine Ai ?_
    have htw := Fq (n := n) hall (by first | exact .inl (by rw [List.length_drop]; omega) | exact .inr ⟨by rw [List.length_drop]; omega, by rw [Eo]; assumption⟩)
    have hpo := Dn (k := k) h40
    rw [htw.1, htw.2] at hpo
    have hdt : (s.take (i + n)).drop i = (s.drop i).take n := by rw [List.drop_take]; congr 1; omega
    refine Ap rfl ?_
    iterate 3 refine Om rfl ?_
    refine H9 rfl rfl rfl i (i + n) rfl rfl (by omega) .free rfl ?_; rw [hdt]
    first | refine Oh rfl ?_ | refine Oj rfl ?_
    refine Cl rfl rfl rfl rfl .free ?_; refine Aa (Ai (Se rfl ?_))
    first | refine Oh rfl ?_ | refine Oj rfl ?_
    refine B7 rfl .free rfl ?_; refine Od rfl rfl rfl (Aa ?_); refine Si rfl ?_ ?_
    ·intro c3; refine Se rfl ?_; refine B7 rfl .free rfl ?_; refine Cl rfl rfl rfl rfl .free ?_; refine Oa rfl (Aa ?_); refine Ac (.c rfl (.tmp rfl .nil)) ?_
     exact ⟨I, L, .refl _, fun _ h => h.drop.drop, Gi (.ofAtom (by unfold As; simp; omega)) (by simp only [D1]; rw [hpo, if_pos (by assumption)])⟩
    intro c3; refine Aj (Se rfl ?_); refine B7 rfl .free rfl ?_; refine Om rfl ?_; refine Cl rfl rfl rfl rfl .free ?_; refine Oa rfl (Aa ?_); refine Ac (.c rfl (.tmp rfl .nil)) ?_; refine ⟨I, L, .refl _, fun _ h => h.drop.drop, .node ((s.drop i).take n) [], _, _, rfl, .ofAtom (by unfold As; simp; omega), rfl, ?_⟩
    simp only [D1]; rw [hpo, if_neg (by assumption)]
    refine ⟨rfl, ?_⟩
    simp only [List.length_drop]; omega
   intro g6_5
   iterate 4 refine A9 rfl rfl rfl ?_
   refine Of rfl rfl (Aa ?_); refine Cw rfl ?_; refine C0 rfl ?_; refine Ai ?_
   have htw := Fq (n := n) hall (by first | exact .inl (by rw [List.length_drop]; omega) | exact .inr ⟨by rw [List.length_drop]; omega, by rw [Eo]; assumption⟩)
   have hpo := Dn (k := k) h40
   rw [htw.1, htw.2] at hpo
   have hdt : (s.take (i + n)).drop i = (s.drop i).take n := by rw [List.drop_take]; congr 1; omega
   refine Ap rfl ?_
   iterate 3 refine Om rfl ?_
   refine H9 rfl rfl rfl i (i + n) rfl rfl (by omega) .free rfl ?_; rw [hdt]
   first | refine Oh rfl ?_ | refine Oj rfl ?_
   refine Cl rfl rfl rfl rfl .free ?_; refine Aa (Ai (Se rfl ?_))
   first | refine Oh rfl ?_ | refine Oj rfl ?_
   refine B7 rfl .free rfl ?_; refine Od rfl rfl rfl (Aa ?_); refine Si rfl ?_ ?_
   ·intro c3; refine Se rfl ?_; refine B7 rfl .free rfl ?_; refine Cl rfl rfl rfl rfl .free ?_; refine Oa rfl (Aa ?_); refine Ac (.c rfl (.tmp rfl .nil)) ?_
    exact ⟨I, L, .refl _, fun _ h => h.drop.drop, Gi (.ofAtom (by unfold As; simp; omega)) (by simp only [D1]; rw [hpo, if_pos (by assumption)])⟩
   intro c3; refine Aj (Se rfl ?_); refine B7 rfl .free rfl ?_; refine Om rfl ?_; refine Cl rfl rfl rfl rfl .free ?_; refine Oa rfl (Aa ?_); refine Ac (.c rfl (.tmp rfl .nil)) ?_; refine ⟨I, L, .refl _, fun _ h => h.drop.drop, .node ((s.drop i).take n) [], _, _, rfl, .ofAtom (by unfold As; simp; omega), rfl, ?_⟩
   simp only [D1]; rw [hpo, if_neg (by assumption)]
   refine ⟨rfl, ?_⟩
   simp only [List.length_drop]; omega
  intro c1; refine Aj (Av ?_)
  have hi' : i < s.length := by omega
  refine Cc (X := LS) (fun x => s.length - x.i) (fun x => [(0, .string (str s)), (1, .int .i64 (x.i : Nat)), (2, .int .i64 (depth : Nat)), (6, .pointer (some ⟨b6, 0, none⟩)), (8, .pointer (some ⟨b8, 0, none⟩))]) (fun x => x.I)
   (fun x => (b8, .cells [.string (str []), Bw x.m x.c x.B].toArray 42 (0, 0)) :: (b6, .cells [.string (str []), .slice none 0 0].toArray 42 (0, 0)) :: (C3 42 x.xs x.B ++ L)) (Sh k s i I) ⟨I, i, 0, [], none, 0, [], s.length - i⟩
   ⟨.refl _, .nil, ⟨rfl, rfl, rfl⟩, rfl, hi', Nat.le_refl _, by simp, by
    have := Lc (k := k) (s := s.drop i) (by rw [Eo]; simp only [Nat.add_zero]; omega)
    rw [List.length_drop] at this
    unfold Ip
    split <;> simp_all⟩ ⟨rfl, rfl, rfl, rfl, rfl, trivial⟩ (fun _ h => h) ?_
  rintro x ⟨hle, hrl, hB, hxm, hxi, hxn, hxt, hlink⟩ ih; refine Av (Se rfl (Om rfl (Om rfl ?_))); refine Or rfl rfl rfl ?_; refine Om rfl ?_; refine Or rfl rfl rfl ?_; refine Ca rfl (ihk s hsl (x.i + 1) (by omega) (depth + 1) (by omega) _ _) ?_; rintro _ J _ hleJ ⟨t, cs, e, rfl, hrep, rfl, hpf⟩; obtain ⟨oa, cc, vs, rfl, -⟩ := hrep.open
  have hdd : (s.drop x.i).drop 1 = s.drop (x.i + 1) := by rw [List.drop_drop]
  obtain ⟨je, hje⟩ : ∃ je : Nat, e = je ∨ e = -1 := by
   cases hp : D1 k (s.drop (x.i + 1)) with
   | none => rw [hp] at hpf; exact ⟨0, .inr hpf⟩
   | some p => rw [hp] at hpf; exact ⟨_, .inl hpf.2⟩
  refine Om rfl (Oe rfl rfl (Oe rfl rfl ?_)); refine Bm .free rfl ?_; intro b10; refine Cl rfl rfl rfl rfl .free ?_; refine Oa rfl (Aa (Ai (Se rfl (Om rfl (Oc rfl rfl rfl (Om rfl ?_))))))
  first | refine Fa rfl rfl ?_ ?_ | refine De rfl rfl ?_ ?_ | refine Jq rfl rfl ?_ ?_
  ·intro g13_3
   iterate 4 refine A9 rfl rfl rfl ?_
   refine Ot rfl rfl (Aa ?_); refine Bk rfl ?_; refine Ai ?_; refine Ed (fun w h => h.u3) (Ib (a := []) (hrl.mono hleJ) hB hxm (by simp [As]) (by unfold As; omega) ?_); intro J2 hle2 hrep2; refine Ap rfl ?_; refine B7 rfl .free rfl ?_; refine Cl rfl rfl rfl rfl .free ?_; refine Oa rfl (Aa ?_); refine Ac (.c rfl (.tmp rfl .nil)) ?_
   have hf : Bg k (s.drop i) = none := by
    refine Ep hlink (by simp only; omega) ?_
    simp only [hdd]
    cases hp : D1 k (s.drop (x.i + 1)) with
    | none => exact .inl rfl
    | some p =>
     obtain ⟨t0, r0⟩ := p; rw [hp] at hpf; refine .inr ⟨t0, r0, rfl, .inl ?_⟩
     have h2 := hpf.2
     apply List.eq_nil_of_length_eq_zero
     omega
   exact ⟨J2, L, (hle.trans hleJ).trans hle2, fun _ h => h.drop.drop.drop, Gi hrep2 hf⟩
  intro g13_3; refine Ow rfl (Ow rfl ?_); refine Aw rfl (.met rfl rfl) rfl ?_; refine A6 rfl rfl rfl (.met rfl rfl) rfl ?_; refine Of rfl rfl (Aa ?_); refine Si rfl ?_ ?_
  ·intro c4; refine Ai ?_; refine Ed (fun w h => h.u3) (Ib (a := []) (hrl.mono hleJ) hB hxm (by simp [As]) (by unfold As; omega) ?_); intro J2 hle2 hrep2; refine Ap rfl ?_; refine B7 rfl .free rfl ?_; refine Cl rfl rfl rfl rfl .free ?_; refine Oa rfl (Aa ?_); refine Ac (.c rfl (.tmp rfl .nil)) ?_
   have hf : Bg k (s.drop i) = none := by
    refine Ep hlink (by simp only; omega) ?_
    simp only [hdd]
    cases hp : D1 k (s.drop (x.i + 1)) with
    | none => exact .inl rfl
    | some p =>
     obtain ⟨t0, r0⟩ := p; rw [hp] at hpf; refine .inr ⟨t0, r0, rfl, .inl ?_⟩
     have h2 := hpf.2
     apply List.eq_nil_of_length_eq_zero
     omega
   exact ⟨J2, L, (hle.trans hleJ).trans hle2, fun _ h => h.drop.drop.drop, Gi hrep2 hf⟩
  intro c4; refine Aj (Ai ?_); obtain rfl : e = je := by omega
  obtain ⟨r, hpf', hre, hrne⟩ : ∃ r, D1 k (s.drop (x.i + 1)) = some (t, r) ∧ r = s.drop je ∧ r ≠ [] := by
   cases hp : D1 k (s.drop (x.i + 1)) with
   | none => rw [hp] at hpf; omega
   | some p =>
    obtain ⟨t0, r0⟩ := p; rw [hp] at hpf; obtain ⟨rfl, h2⟩ := hpf
    have hsf := K2 hp
    have h3 := Mi (hsf.trans (List.drop_suffix _ _))
    have h4 := hsf.length_le
    rw [List.length_drop] at h4
    have h5 : je = s.length - r0.length := by omega
    refine ⟨r0, rfl, by rw [h5]; exact h3, ?_⟩; intro e; subst e; simp at h5; omega
  have hrl0 : r.length = s.length - je := by rw [hre]; simp
  have hrpos := List.length_pos_iff.2 hrne
  have hrlt : x.i + 1 < je := by have := N5 hpf'; rw [List.length_drop] at this; omega
  refine Ap rfl ?_
  first | refine Oh rfl ?_ | refine Oj rfl ?_
  refine B7 rfl .free rfl ?_; refine B7 rfl .free rfl ?_; refine Ol rfl rfl ?_; intro b71; refine Ge (B := x.B) (xs := x.xs) (ys := [.string (str t.atom), .slice oa t.parts.length cc]) (m := x.m) (c := x.c) (by intro kk; simp) (by rfl) rfl rfl hB (fun _ h => h.u4) (by rfl) (fun a ha => by cases ha; exact Cv (.head _) (by rfl)) (by simp) (by rfl) (by decide) (by decide) (by omega) (by decide) .free rfl ?_; intro bb sp c' hB'
  first | refine Oh rfl ?_ | refine Oj rfl ?_
  refine Cl rfl rfl rfl rfl .free ?_
  have hrl' : RepL J (x.ts ++ [t]) (x.xs ++ [Value.string (str t.atom), Value.slice oa t.parts.length cc]) := (hrl.mono hleJ).append (.cons hrep .nil)
  have hlen' : x.m + 1 = (x.ts ++ [t]).length := by simp [hxm]
  have hhd : r.getD 0 0 = s.getD je 0 := by rw [hre, Eo]; rfl
  refine Aa (Se rfl (Om rfl (Oa rfl (Aa (Ai (Se rfl (Om rfl (Om rfl ?_)))))))); refine A2 rfl rfl rfl (by omega) .free rfl ?_; refine Oc rfl rfl rfl (Aa ?_); refine Si rfl ?_ ?_
  ·intro c5; refine Ai ?_; refine Fk ?_; intro hfz; refine Ap rfl ?_; refine B7 rfl .free rfl ?_; refine Om rfl ?_; refine Or rfl rfl rfl ?_; refine Cl rfl rfl rfl rfl .free ?_; refine Oa rfl (Aa ?_); refine Ac (.c rfl (.tmp rfl .nil)) ?_; refine ⟨_, L, (hle.trans hleJ).trans hfz, fun _ h => h.drop.drop.drop.drop, .node [] (x.ts ++ [t]), _, _, rfl, .mk' hlen' (hrl'.mono hfz) (fun y hy => by cases hy; exact D7) (by simp) hB'.2.1 (by simp [As]) (by unfold As; omega), rfl, ?_⟩
   simp only [D1]
   rw [Hr hlink (by simp only; omega) (by simp only [hdd]; exact hpf') hrne (by rw [hhd]; omega)]; refine ⟨rfl, ?_⟩
   simp only [List.length_drop]; omega
  intro c5; refine Aj (Se rfl (Om rfl (Om rfl ?_))); refine A2 rfl rfl rfl (by omega) .free rfl ?_; refine Oc rfl rfl rfl (Aa ?_); refine Si rfl ?_ ?_
  ·intro c6; refine Ai ?_; refine Fk ?_; intro hfz; refine Ap rfl ?_; refine B7 rfl .free rfl ?_; refine Cl rfl rfl rfl rfl .free ?_; refine Oa rfl (Aa ?_); refine Ac (.c rfl (.tmp rfl .nil)) ?_
   have hf : Bg k (s.drop i) = none := by
    refine Ep hlink (by simp only; omega) (.inr ⟨t, r, by simp only [hdd]; exact hpf', .inr ⟨by rw [hhd]; omega, by rw [hhd]; omega⟩⟩)
   exact ⟨_, L, (hle.trans hleJ).trans hfz, fun _ h => h.drop.drop.drop.drop, Gi (t := .node [] (x.ts ++ [t])) (.mk' hlen' (hrl'.mono hfz) (fun y hy => by cases hy; exact D7) (by simp) hB'.2.1 (by simp [As]) (by unfold As; omega)) hf⟩
  intro c6; refine Aj (Ar ?_); refine Ed (fun w h => Mem.sub (L' := (b8, _) :: (b6, _) :: (bb, _) :: L) (by repeat (first | exact List.Sublist.refl _ | apply List.Sublist.cons_cons | apply List.Sublist.cons)) h.f4.f4) (B4 ?_ (ih ⟨J, je, x.m + 1, x.ts ++ [t], some (bb, sp), c', _, x.n - 1⟩ ⟨hle.trans hleJ, hrl', hB', hlen', by simp only; omega, by simp only; omega, by simp only; omega, ?_⟩ (by simp only; omega)))
  ·exact ⟨rfl, rfl, rfl, rfl, rfl, trivial⟩
  ·have := Hs (I := J) (B := some (bb, sp)) (c := c') (m' := x.m + 1) (xs := x.xs ++ [Value.string (str t.atom), Value.slice oa t.parts.length cc]) hlink (by simp only; omega) (by simp only [hdd]; exact hpf') hrne (by rw [hhd]; omega) (by rw [hhd]; omega)
   rw [hre] at this
   exact this

def Qr : Nat := 9223372036854775807
theorem N7 {n : Nat} (h : n ≤ As) : n ≤ Qr := by unfold As at h; unfold Qr; omega
theorem Mx (s : Af) (hs : s.length ≤ Qr) (I : Heap) (L : At) : Fun Tryd.prog 17 [.string (str s)] I L (RD (Bv s) L) := by
 unfold Qr at hs
 refine Ag (by simp) ?_; refine Se rfl ?_; refine Bm .free rfl ?_; intro b2; refine Oa rfl (Aa (Ai (Se rfl (Om rfl ?_)))); refine Aw rfl .free rfl ?_; refine Oc rfl rfl rfl (Aa ?_); refine Si rfl ?_ ?_
 ·intro c0; refine Se rfl ?_; refine Dh rfl rfl rfl .free rfl ?_; refine Cl rfl rfl rfl rfl .free ?_; refine Oa rfl (Aa ?_); refine Ac (.c rfl (.tmp rfl .nil)) ?_
  exact ⟨I, L, .refl _, fun _ h => h.drop, .node [] [], _, false, rfl, Rep.empty I, rfl, by rw [Bv, if_pos (by omega)]⟩
 intro c0; refine Aj (Se rfl (Om rfl ?_)); refine Ca rfl (Pf 61 s (by omega) 0 (by omega) 0 rfl _ _) ?_; rintro _ J _ hleJ ⟨t, cs, e, rfl, hrep, rfl, hpf⟩; obtain ⟨oa, cc, vs, rfl, -⟩ := hrep.open; refine Om rfl (Oe rfl rfl (Oe rfl rfl ?_)); refine Bm .free rfl ?_; intro b4; refine Cl rfl rfl rfl rfl .free ?_; refine Oa rfl (Aa (Se rfl ?_)); refine B7 rfl .free rfl ?_; refine Om rfl (Om rfl ?_); refine Aw rfl .free rfl ?_; refine Oc rfl rfl rfl ?_; refine Cl rfl rfl rfl rfl .free ?_; refine Oa rfl (Aa ?_); refine Ac (.c rfl (.tmp rfl .nil)) ?_
 refine ⟨J, L, hleJ, fun _ h => h.drop.drop, t, _, _, rfl, hrep, rfl, ?_⟩; rw [Bv, if_neg (by omega)]
 simp only [D1, List.drop_zero] at hpf
 cases hp : Bg 60 s with
 | none =>
  rw [hp] at hpf
  simp only at hpf ⊢
  exact decide_eq_false (by omega)
 | some p =>
  obtain ⟨t0, r0⟩ := p
  have hsf := (Hd hp).length_le
  have hlt := Ke hp
  rw [hp] at hpf; obtain ⟨rfl, rfl⟩ := hpf
  cases r0 with
  | nil => exact ⟨decide_eq_true (by simp), rfl⟩
  | cons c r0 =>
   simp only [List.length_cons] at hlt hsf ⊢
   exact decide_eq_false (by omega)
theorem Jz (s : Af) (hs : s.length ≤ As) (I : Heap) (L : At) : Fun Tryd.prog 17 [.string (str s)] I L (RD (Bv s) L) := Mx s (N7 hs) I L
def Li (s : Af) : Option Tree := match Bv s with
 | some t => bif t.typed then some t else none
 | none => none
section rules
variable {P : Program} {f : FuncId} {n : Nat} {I₀ : Heap} {Q : A5} {k : List Item} {E : D3} {I : Heap} {L : At}
variable {ops : Array Oper} {d : Nat} {ty : TypeId} {pos : String} {af : Array Edge} {g : Option (Nat × Bool)} {l : List Oper}

theorem P0 {c : Code} {rs : List ResultVar} {vs : List Value} {m : Nat} [hf : A4 P f c m rs] (hr : RetOk P E I L rs vs)
  (hp : ∃ I' L', HLe I₀ I' ∧ (∀ w, Mem I L w → Mem I' L' w) ∧ Q (Bj vs) I' L') : RunS P f n I₀ Q [] E I L := by
 obtain ⟨fn, hfn, _, _, hrs, _⟩ := hf.get; intro a w ha hd he hm cs; obtain ⟨I', L', hle, hmm, hq⟩ := hp; refine ⟨.returned (Bj vs), w, _, ⟨_, I', L', rfl, hle, hmm w hm, hq⟩, .one step_end, rfl, rfl, hd, rfl, fn, hfn, ?_⟩
 have h1 := Py hr he hm
 have h2 : (fn.results.mapM (fun | .tmp t => pure (a.tmps.getD t undef) | .cell b t => do loadVar t (← asAddr (a.tmps.getD b undef)) : ResultVar → Sem Value)).run P w = .ok vs.toArray w := by
  rw [hrs, List.mapM_toArray]
  exact Ab h1
 unfold results
 rw [show ((base f).at a []).tmps = a.tmps from rfl]; refine Eq.trans (Ab h2) ?_
 cases vs with
 | nil => rfl
 | cons v vs =>
  cases vs with
  | nil => rfl
  | cons u us => simp [Bj, Cz]

theorem Cd {S : World → Prop} {x : Operand} {a : Addr} (hx : Au E x = some (.pointer (some a))) : Dz P E S ⟨some d, .nilCheck x, ty, pos, af, g⟩ (.pointer (some a)) := fun ac w he _ => by
 simp only [execOp, he.eval hx]; rfl
theorem Bh {x : Operand} {a : Addr} (hx : Au E x = some (.pointer (some a))) (hg : Wants ops E g) (hdn : Nat.blt d n = true) (h : Ah P f n I₀ Q ops l k ((d, .pointer (some a)) :: E) I L) :
  Ah P f n I₀ Q ops (⟨some d, .nilCheck x, ty, pos, af, g⟩ :: l) k E I L := Bi (Cd hx) hg hdn h

theorem F1 {op : BinOp} {T : TypeId} {x y : Operand} {a b : Option Addr} (w : World) : (eqGuard op T x y (.pointer a) (.pointer b)).run P w = .ok () w := by
 unfold eqGuard; split <;> rfl
theorem Qb {S : World → Prop} {T T' e sz bb : Nat} {z : List Value} [ht : Ae P T (.pointer e) sz bb z] {x y : Operand} {oa : Option Addr} (hx : Au E x = some (.pointer oa)) (hy : Au E y = some (.pointer none)) :
  Dz P E S ⟨some d, .binOp .eql T x y T', ty, pos, af, g⟩ (.bool oa.isNone) := fun ac w he _ => by
 simp only [execOp, he.eval hx, he.eval hy]
 refine Ab (a := _) (w' := w) ?_ |>.trans rfl
 rw [Ab (F1 w)]
 have h : ∀ d : Nat, (Op.equalIn (d + 1) T (.pointer oa) (.pointer none)).run P w = .ok oa.isNone w := fun d => by
  unfold Op.equalIn
  rw [Ab (Ao ht.und w)]
  cases oa <;> rfl
 simp only [binOp, Op.equal]
 exact Ab (h 9999) |>.trans rfl
theorem L6 {T T' e sz bb : Nat} {z : List Value} [ht : Ae P T (.pointer e) sz bb z] {x y : Operand} {oa : Option Addr} (hx : Au E x = some (.pointer oa)) (hy : Au E y = some (.pointer none)) (hg : Wants ops E g) (hdn : Nat.blt d n = true)
  (h : Ah P f n I₀ Q ops l k ((d, .bool oa.isNone) :: E) I L) : Ah P f n I₀ Q ops (⟨some d, .binOp .eql T x y T', ty, pos, af, g⟩ :: l) k E I L := Bi (Qb hx hy) hg hdn h
theorem Ob {T T' e sz bb esz ebb : Nat} {z ez : List Value} {dd : TypeDesc} [ht : Ae P T (.pointer e) sz bb z] [hte : Ae P e dd esz ebb ez] {x y : Operand} {a : Addr} (hx : Au E x = some (.pointer (some a))) (hy : Au E y = some (.pointer (some a))) (hg : Wants ops E g) (hdn : Nat.blt d n = true)
  (h : Ah P f n I₀ Q ops l k ((d, .bool false) :: E) I L) : Ah P f n I₀ Q ops (⟨some d, .binOp .neq T x y T', ty, pos, af, g⟩ :: l) k E I L :=
 Ps (fun ac w he => by
  simp only [execOp, he.eval hx, he.eval hy]
  refine Ab (a := _) (w' := w) ?_ |>.trans rfl
  rw [Ab (F1 w)]; obtain ⟨i, z, hi, _⟩ := hte.info
  exact Lib.run_neq_ptr_same w a ht.und hi) hg hdn h

theorem Hy {b : Nat} {c : Array Value} {T : TypeId} {fr : Nat × Nat} {w : World} (hm : (b, Obj.cells c T fr) ∈ L) (hw : Mem I L w) : w.shape? b = some (T, c.size) := by
 simp [World.shape?, (hw.2.1 _ hm).1]
theorem M4 {src dst t sz bb sz2 bb2 tsz tbb : Nat} {z z2 tz : List Value} {dd : TypeDesc} [hs : Ae P src (.pointer t) sz bb z] [hd : Ae P dst .unsafePointer sz2 bb2 z2] [ht : Ae P t dd tsz tbb tz] {x : Operand} {b off : Nat} {cs : List Value} {U : TypeId} {fr : Nat × Nat}
  (hx : Au E x = some (.pointer (some ⟨b, off, none⟩))) (hm : (b, Obj.cells cs.toArray U fr) ∈ L) (ht0 : tsz ≠ 0) (ho : off < cs.length) (hg : Wants ops E g) (hdn : Nat.blt d n = true)
  (h : Ah P f n I₀ Q ops l k ((d, .pointer (some ⟨b, off, none⟩)) :: E) I L) : Ah P f n I₀ Q ops (⟨some d, .convert src dst x, ty, pos, af, g⟩ :: l) k E I L :=
 Bi (fun ac w he hw => by
  obtain ⟨i, z, hi, hsz, _⟩ := ht.info
  simp only [execOp, he.eval hx]
  exact Ab (Lib.run_to_unsafe w ⟨b, off, none⟩ hs.und hd.und hi (by omega) (Hy hm hw) (by simpa using ho)) |>.trans rfl) hg hdn h
theorem K4 {src dst u sz bb sz2 bb2 usz ubb : Nat} {z z2 uz : List Value} {dd : TypeDesc} [hs : Ae P src .unsafePointer sz bb z] [hd : Ae P dst (.pointer u) sz2 bb2 z2] [hu : Ae P u dd usz ubb uz] {x : Operand} {b off : Nat} {cs : List Value} {U : TypeId} {fr : Nat × Nat}
  (hx : Au E x = some (.pointer (some ⟨b, off, none⟩))) (hm : (b, Obj.cells cs.toArray U fr) ∈ L) (hl : liesAt P P.depth U (cs.length / P.cellsOf U) off u 1 = true) (hg : Wants ops E g) (hdn : Nat.blt d n = true)
  (h : Ah P f n I₀ Q ops l k ((d, .pointer (some ⟨b, off, none⟩)) :: E) I L) : Ah P f n I₀ Q ops (⟨some d, .convert src dst x, ty, pos, af, g⟩ :: l) k E I L :=
 Bi (fun ac w he hw => by
  obtain ⟨i, z, hi, _⟩ := hu.info
  simp only [execOp, he.eval hx]
  exact Ab (Lib.run_from_unsafe w ⟨b, off, none⟩ hs.und hd.und hi (Hy hm hw) (by simpa using hl)) |>.trans rfl) hg hdn h

theorem Po {kf : FuncId} {args : Array Operand} {tys : Array TypeId} {vs : List Value} {v : Value} {fn : Func} {e : Array Value → Sem Value} (hf : P.funcs[kf]? = some fn) (hb : fn.body = none) (hne : (fn.name == "runtime.NumGoroutine") = false)
  (h1 : (Extern.findNext fn).isNone = true) (h2 : Extern.find fn = some e) (hv : ∀ w, (e vs.toArray).run P w = .ok v w)
  (ha : Dy E args.toList = some vs) (hg : Wants ops E g) (hdn : Nat.blt d n = true) (h : Ah P f n I₀ Q ops l k ((d, v) :: E) I L) :
  Ah P f n I₀ Q ops (⟨some d, .call ⟨.value (.func kf), args, tys⟩, ty, pos, af, g⟩ :: l) k E I L :=
 Ps (fun a w he => by
  have h3 : args.map a.eval = vs.toArray := Array.ext' (by simpa using he.evals ha)
  simp only [execOp, resolve, h3]
  simp only [Act.eval, Deferred.ofValue, pure_bind, invoke]
  unfold callFunc
  rw [Ab (a := P) (w' := w) rfl]
  have h1' : Extern.findNext fn = none := by simpa using h1
  simp only [hf, hne, hb, Option.isNone_none, if_true, if_false, Bool.false_eq_true, h1', h2]
  rw [Ab (a := ()) (w' := w) rfl]
  have := hv w
  simp only [Array.append_empty, Array.empty_append]
  exact Ab this |>.trans rfl) hg hdn h

theorem Me {T e T2 : TypeId} {sz bb esz ebb : Nat} {z ez : List Value} {dd dd2 : TypeDesc} (ht : Ae P T (.slice e) sz bb z) (hte : Ae P e dd esz ebb ez) {base : Option Addr} {m c : Nat} {x : Value} (hu2 : P.underlying T2 = some dd2) (hni : ∀ kk, dd2 ≠ .int kk)
  (hmc : m ≤ c) {w : World} (hxl : (Builtin.lenOf x).run P w = .ok 0 w) (hxf : (Builtin.firstCells esz 0 x).run P w = .ok #[] w) :
  (Builtin.append_ #[T, T2] T #[.slice base m c, x]).run P w = .ok (.slice base m c) w := by
 unfold Builtin.append_
 simp only [List.getElem?_toArray, List.getElem?_cons_zero, List.getElem?_cons_succ]
 rw [Ab (Ao ht.und w)]
 simp only []
 rw [Ab (C4 hte w)]; rw [Ab (Ao hu2 w)]
 have hz : (match dd2 with | .int _ => true | _ => false) = false := by
  cases dd2 <;> first | rfl | exact absurd rfl (hni _)
 simp only [hz, pure_bind, Bool.false_eq_true, if_false, Bool.not_false, if_true]
 rw [Ab hxl]
 simp only [Nat.add_zero, if_pos hmc]
 rw [Ab hxf]
 cases base <;> rfl

def bv (b : UInt8) : Value := .int .u8 (b.toNat : Nat)
theorem He {s : List UInt8} {w : World} : (Builtin.firstCells 1 s.length (.string (str s))).run P w = .ok (s.map bv).toArray w := by
 simp only [Builtin.firstCells, Cz]
 congr 1
 apply Array.ext'
 simp [str, ByteArray.data_extract, bv]
theorem Jg {s : List UInt8} {w : World} : (Builtin.lenOf (.string (str s))).run P w = .ok s.length w := by
 simp [Builtin.lenOf, Cz, str, ByteArray.size]
theorem O5 (s : List UInt8) : (s.map bv).all Bc = true := by simp [bv, Bc]

theorem L4 {T T2 e : TypeId} {sz bb ebb sz2 bb2 : Nat} {z ez z2 : List Value} {dd : TypeDesc} [ht : Ae P T (.slice e) sz bb z] [hte : Ae P e dd 1 ebb ez] [ht2 : Ae P T2 .string sz2 bb2 z2]
  {x y : Operand} {B : Hl} {xs : List Value} {s : List UInt8} {m c : Nat} {L₀ : At} (hez : ez.length = 1)
  (hx : Au E x = some (Bw m c B)) (hy : Au E y = some (.string (str s))) (hB : Eh 1 m c xs B) (hL : ∀ w, Mem I L w → Mem I (C3 e xs B ++ L₀) w)
  (hsize : (m + s.length) ≤ 4294967296) (hbytes : ebb ≤ 1024) (hg : Wants ops E g) (hdn : Nat.blt d n = true)
  (h : ∀ B' c', Eh 1 (m + s.length) c' (xs ++ s.map bv) B' → (s ≠ [] → B' ≠ none) → (s = [] → B' = B) → Ah P f n I₀ Q ops l k ((d, Bw (m + s.length) c' B') :: E) I (C3 e (xs ++ s.map bv) B' ++ L₀)) :
  Ah P f n I₀ Q ops (⟨some d, .call ⟨.builtin .append, #[x, y], #[T, T2]⟩, T, pos, af, g⟩ :: l) k E I L := by
 refine Gn rfl hdn (fun a he => hg.wanted a he) fun a w he hm => ?_
 by_cases hs : s = []
 ·subst hs
  have hv : ∃ base cc, Bw m c B = .slice base m cc ∧ m ≤ cc ∧ cc = c := by
   cases B with
   | none => obtain ⟨h1, h2, h3⟩ := hB; exact ⟨none, 0, by simp [Bw, h2], by omega, h3.symm⟩
   | some p => exact ⟨_, c, rfl, hB.2.1, rfl⟩
  obtain ⟨base, cc, hbv, hmc, rfl⟩ := hv
  have := Me (P := P) (T2 := T2) (base := base) (x := .string (str [])) (w := w) ht hte ht2.und (by intro kk; simp) hmc Jg He
  refine ⟨_, w, I, _, ?_, hL w hm, by simpa using h B cc (by simpa using hB) (by simp) (fun _ => rfl)⟩
  simp only [execOp, resolve, List.map_toArray, List.map, he.eval hx, he.eval hy, pure_bind, invoke, builtin, hbv]
  exact Ab this |>.trans rfl
 ·have hpos := List.length_pos_iff.2 hs
  obtain ⟨w', B', c', hr, hne, hB', hm'⟩ := Jf (x := .string (str s)) (m2 := s.length) (ys := s.map bv) ht hte hez ht2.und (by intro kk; simp) hB (hL w hm) (by simp) (fun _ => Jg) (fun w hw => He) (O5 s) hpos (by decide) hsize hbytes; refine ⟨_, w', I, _, ?_, hm', h B' c' hB' (fun _ => hne) (fun hh => absurd hh hs)⟩
  simp only [execOp, resolve, List.map_toArray, List.map, he.eval hx, he.eval hy, pure_bind, invoke, builtin]
  exact Ab hr |>.trans rfl

theorem Mem.frozen {b m : Nat} {o : Obj} {w : World} (h : Mem I ((b, o) :: L) w) : Mem I L (w.freeze ⟨b, 0, none⟩ m) := by
 obtain ⟨h1, h2, h3⟩ := h
 have hb := h2 (b, o) (.head _)
 have hn : b ∉ L.map (·.1) ∧ (L.map (·.1)).Nodup := List.nodup_cons.1 h3
 unfold World.freeze
 split
 ·exact ⟨h1, fun p hp => h2 p (.tail _ hp), hn.2⟩
 ·refine ⟨⟨fun c u hc => ?_, h1.2⟩, fun p hp => ⟨?_, (h2 p (.tail _ hp)).2⟩, hn.2⟩
  ·have hne : b ≠ c := fun e => by subst e; rw [hb.2] at hc; cases hc
   simp only [Array.getElem?_modify, if_neg hne]
   exact h1.1 c u hc
  ·have hne : b ≠ p.1 := fun e => hn.1 (e ▸ List.mem_map.2 ⟨p, hp, rfl⟩)
   simp only [Array.getElem?_modify, if_neg hne]
   exact (h2 p (.tail _ hp)).1


theorem Mr {S : World → Prop} {x : Operand} {a : Addr} {m c : Nat} {tys : Array TypeId} (hx : Au E x = some (.slice (some a) m c)) (hc : c ≠ 0) :
  Dz P E S ⟨some d, .call ⟨.builtin .unsafeSliceData, #[x], tys⟩, ty, pos, af, g⟩ (.pointer (some a)) := fun ac w he _ => by
 simp only [execOp, resolve, List.map_toArray, List.map, he.eval hx, pure_bind, invoke, builtin]
 exact Ab (Lib.run_unsafeSliceData_row w _ _ _ _ _ hc) |>.trans rfl
theorem Lk {S : World → Prop} {x : Operand} {m c : Nat} {tys : Array TypeId} (hx : Au E x = some (.slice none m c)) :
  Dz P E S ⟨some d, .call ⟨.builtin .unsafeSliceData, #[x], tys⟩, ty, pos, af, g⟩ (.pointer none) := fun ac w he _ => by
 simp only [execOp, resolve, List.map_toArray, List.map, he.eval hx, pure_bind, invoke, builtin]
 exact Ab (Lib.run_unsafeSliceData_nil w _ _ _ _) |>.trans rfl
theorem Ij {S : World → Prop} {x y : Operand} {pt it : TypeId} {oa : Option Addr} (hx : Au E x = some (.pointer oa)) (hy : Au E y = some (.int .i64 0)) :
  Dz P E S ⟨some d, .call ⟨.builtin .unsafeString, #[x, y], #[pt, it]⟩, ty, pos, af, g⟩ (.string (str [])) := fun ac w he _ => by
 simp only [execOp, resolve, List.map_toArray, List.map, he.eval hx, he.eval hy, pure_bind, invoke, builtin]
 exact Ab (Lib.run_unsafeString_none w _ _ _ _) |>.trans rfl
theorem Iv {S : World → Prop} {fuel : Nat} {listed listed' : Array Bool} (i : Nat) {x y : Operand} {pt it e sz bb : Nat} {z : List Value} [ht : Ae P pt (.pointer e) sz bb z] {b : Nat} {xs : List UInt8} {sp : List Value} {fr : Nat × Nat} {L₀ : At}
  (hi : ops[i]? = some ⟨some d, .call ⟨.builtin .unsafeString, #[x, y], #[pt, it]⟩, ty, pos, af, g⟩) (hc : decide (Region.ready .any ops listed = [i]) = true) (hl : listed' = listed.setIfInBounds i true)
  (hx : Au E x = some (.pointer (some ⟨b, 0, none⟩))) (hy : Au E y = some (.int .i64 (xs.length : Nat))) (he1 : P.cellsOf e = 1) (h0 : xs ≠ []) (hlen : xs.length ≤ 4294967296)
  (hL : ∀ w, Mem I L w → Mem I ((b, .cells (xs.map bv ++ sp).toArray e fr) :: L₀) w) (hS : C9 ops listed' = true ∨ ∀ w, Mem I L₀ w → S w) (hg : Wants ops E g) (hdn : Nat.blt d n = true)
  (h : Be P f n I₀ Q ops S fuel listed' k ((d, .string (str xs)) :: E) I L₀) : Be P f n I₀ Q ops S (fuel + 1) listed k E I L := by
 refine Ks i hi hc hl rfl hdn (fun a he => hg.wanted a he) fun a w he hm => ?_
 have hm' := hL w hm
 have hb := (hm'.2.1 _ (.head _)).1
 refine ⟨_, _, I, L₀, ?_, hm'.frozen (m := xs.length), hS, h⟩
 simp only [execOp, resolve, List.map_toArray, List.map, he.eval hx, he.eval hy, pure_bind, invoke, builtin]
 refine Ab (Lib.run_unsafeString_row w pt it ty e ht.und he1 b _ (Hy (.head _) hm') xs h0 (by simp) (by omega) ?_) |>.trans rfl
 intro j c hj; rw [Im hb]
 have hjl : j < xs.length := by
  rcases Nat.lt_or_ge j xs.length with gg | gg
  ·exact gg
  ·simp [List.getElem?_eq_none gg] at hj
 simp only [Nat.zero_add, List.getElem?_toArray]
 rw [List.getElem?_append_left (by simpa using hjl), List.getElem?_map, hj]
 rfl

theorem Lj {m c : Nat} {B : Hl} : C5 (Bw m c B) = some [Bw m c B] := by cases B <;> rfl

end rules
theorem Mem.bl1 {I : Heap} {a p : Nat × Obj} {X L : At} {w : World} (h : Mem I (a :: p :: (X ++ L)) w) : Mem I (p :: (X ++ a :: L)) w := h.f1.perm (List.Perm.cons _ (List.perm_append_comm_assoc [a] X L))
theorem Mem.br1 {I : Heap} {a p : Nat × Obj} {X L : At} {w : World} (h : Mem I (p :: (X ++ a :: L)) w) : Mem I (a :: p :: (X ++ L)) w :=
 (h.perm (List.Perm.cons _ (List.perm_append_comm_assoc [a] X L).symm)).f1
def Q9 (xs : Af) (B : Hl) (c : Nat) : Prop := Eh 1 xs.length c (xs.map bv) B ∧ (B = none ∨ xs ≠ [])
def O0 (b : Nat) (pre : Bool) (xs : Af) (B : Hl) (c : Nat) (L : At) : At :=
 (b, .cells [.pointer (bif pre then some ⟨b, 0, none⟩ else none), Bw xs.length c B].toArray 78 (0, 0)) :: (C3 5 (xs.map bv) B ++ L)

theorem C2 (b : Nat) (pre : Bool) (v2 : Value) (I : Heap) (L : At) : Fun Tryd.prog 77 [.pointer (some ⟨b, 0, none⟩)] I
  ((b, .cells [.pointer (bif pre then some ⟨b, 0, none⟩ else none), v2].toArray 78 (0, 0)) :: L)
  (fun v I' L' => v = .tuple #[] ∧ I = I' ∧ L' = (b, .cells [.pointer (some ⟨b, 0, none⟩), v2].toArray 78 (0, 0)) :: L) := by
 cases pre with
 | true =>
  refine Ag (by simp) ?_; refine Se rfl (Om rfl ?_); refine Bh rfl .free rfl ?_
  first | refine Oh rfl ?_ | refine Oj rfl ?_
  refine B7 rfl .free rfl ?_; refine L6 rfl rfl .free rfl ?_; refine Aa ?_
  first | refine Sf rfl (by simp) ?_ | refine Cw (by simp [A8, Au, *]) ?_
  refine Se rfl (Om rfl ?_); refine Bh rfl .free rfl ?_
  first | refine Oh rfl ?_ | refine Oj rfl ?_
  refine B7 rfl .free rfl ?_; refine Om rfl ?_; refine Ob rfl rfl .free rfl ?_; refine Aa ?_
  first | refine Sf rfl (by simp) ?_ | refine Cw (by simp [A8, Au, *]) ?_
  refine Aj ?_; refine P0 .nil ?_
  exact ⟨I, _, .refl _, fun _ h => h, rfl, rfl, rfl⟩
 | false =>
  refine Ag (by simp) ?_; refine Se rfl (Om rfl ?_); refine Bh rfl .free rfl ?_
  first | refine Oh rfl ?_ | refine Oj rfl ?_
  refine B7 rfl .free rfl ?_; refine L6 rfl rfl .free rfl ?_; refine Aa ?_
  first | refine St rfl (by simp) ?_ | refine Bk (by simp [A8, Au, *]) ?_
  refine Ap rfl (Om rfl (Om rfl ?_)); refine M4 rfl (.head _) (by decide) (by simp) .free rfl ?_; refine Po (fn := Tryd.f84) (e := Extern.AbiNoEscape.same) Tryd.func84 (by kernel_rfl) (by kernel_rfl) (by kernel_rfl) (by kernel_rfl) (fun w => Lib.run_noEscape w _) rfl .free rfl ?_; refine K4 rfl (.head _) (by kernel_rfl) .free rfl ?_; refine Bh rfl .free rfl ?_
  first | refine Oh rfl ?_ | refine Oj rfl ?_
  refine Cl rfl rfl rfl rfl .free ?_; refine Aa ?_; refine P0 .nil ?_
  exact ⟨I, _, .refl _, fun _ h => h, rfl, rfl, rfl⟩

theorem Eb (b : Nat) (pre : Bool) (xs : Af) (B : Hl) (c : Nat) (s : Af) (hB : Q9 xs B c) (hs : xs.length + s.length ≤ As) (I : Heap) (L : At) :
  Fun Tryd.prog 64 [.pointer (some ⟨b, 0, none⟩), .string (str s)] I (O0 b pre xs B c L)
  (fun v I' L' => v = .tuple #[.int .i64 (s.length : Nat), .nilIface] ∧ I = I' ∧ ∃ B' c', Q9 (xs ++ s) B' c' ∧ L' = O0 b true (xs ++ s) B' c' L) := by
 unfold As at hs
 refine Ag (by simp) ?_; refine Se rfl (Oa rfl (Oa rfl (Aa (Se rfl (Om rfl ?_))))); refine Ca rfl (C2 b pre _ _ _) ?_; rintro _ _ _ _ ⟨rfl, rfl, rfl⟩; refine Aa (Se rfl (Om rfl (Om rfl ?_))); refine Bh rfl .free rfl ?_
 first | refine Oh rfl ?_ | refine Oj rfl ?_
 refine B7 rfl .free rfl ?_; refine Om rfl ?_; refine L4 (B := B) (xs := xs.map bv) (s := s) (m := xs.length) (c := c) (by rfl) rfl rfl hB.1 (fun _ h => h.u1) (by omega) (by decide) .free rfl ?_; intro B' c' hB' hne hsame; refine E3 (fun w h => h.perm (List.perm_middle (l₁ := C3 _ _ B'))) ?_; refine Bh rfl .free rfl ?_
 first | refine Oh rfl ?_ | refine Oj rfl ?_
 refine Nr rfl rfl Lj rfl (by first | rfl | (simp only [List.toList_toArray, List.all_cons, List.all_nil, Fb, Bool.and_true, Bool.true_and] <;> rfl)) (by first | exact u0 | exact u1 | exact u2 | exact u3 | exact u4 | exact u5 | exact u6) (by rfl) .free ?_; refine Aa (Se rfl (Om rfl ?_)); refine Aw rfl .free rfl ?_; refine Oa rfl (Oa rfl (Aa ?_)); refine Ac (.tmp rfl (.tmp rfl .nil)) ?_; refine ⟨I, _, .refl _, fun _ h => h, rfl, rfl, B', c', ⟨by simpa using hB', ?_⟩, by simp [O0]⟩
 by_cases hs0 : s = []
 ·subst hs0; rw [hsame rfl]; simpa using hB.2
 ·exact .inr (by simp [hs0])
theorem Bx (b : Nat) (pre : Bool) (xs : Af) (B : Hl) (c : Nat) (u : UInt8) (hB : Q9 xs B c) (hs : xs.length + 1 ≤ As) (I : Heap) (L : At) :
  Fun Tryd.prog 69 [.pointer (some ⟨b, 0, none⟩), .int .u8 (u.toNat : Nat)] I (O0 b pre xs B c L)
  (fun v I' L' => v = .nilIface ∧ I = I' ∧ ∃ B' c', Q9 (xs ++ [u]) B' c' ∧ L' = O0 b true (xs ++ [u]) B' c' L) := by
 unfold As at hs
 refine Ag (by simp) ?_; refine Se rfl (Oa rfl (Aa (Se rfl (Om rfl ?_)))); refine Ca rfl (C2 b pre _ _ _) ?_; rintro _ _ _ _ ⟨rfl, rfl, rfl⟩; refine Aa (Se rfl (Om rfl (Om rfl ?_))); refine Bh rfl .free rfl ?_
 first | refine Oh rfl ?_ | refine Oj rfl ?_
 refine B7 rfl .free rfl ?_; refine Om rfl ?_; refine Ol rfl rfl ?_; intro b13; refine Ge (B := B) (xs := xs.map bv) (ys := [bv u]) (m := xs.length) (c := c) (by intro kk; simp) (by rfl) rfl rfl hB.1 (fun _ h => h.u2) (by rfl) (fun a ha => by cases ha; exact Cv (.head _) (by rfl)) (by simp) (by rfl) (by decide) (by decide) (by omega) (by decide) .free rfl ?_; intro bb sp c' hB'; refine Bh rfl .free rfl ?_
 first | refine Oh rfl ?_ | refine Oj rfl ?_
 refine Cl rfl rfl rfl rfl .free ?_; refine Aa (Se rfl (Oa rfl (Aa (Ac (.tmp rfl .nil) ?_)))); refine ⟨I, _, .refl _, fun w h => Mem.sub (L' := (b, _) :: (bb, _) :: L) (by repeat (first | exact List.Sublist.refl _ | apply List.Sublist.cons_cons | apply List.Sublist.cons)) h.f2, rfl, rfl, some (bb, sp), c', ⟨by simpa using hB', .inr (by simp)⟩, by simp [O0, C3, Bw]⟩
theorem E8 (b : Nat) (pre : Bool) (xs : Af) (B : Hl) (c : Nat) (hB : Q9 xs B c) (hs : xs.length ≤ As) (I : Heap) (L : At) :
  Fun Tryd.prog 57 [.pointer (some ⟨b, 0, none⟩)] I (O0 b pre xs B c L) (Cr (.string (str xs)) I L) := by
 unfold As at hs
 cases B with
 | none =>
  obtain ⟨⟨h1, h2, h3⟩, _⟩ := hB; obtain rfl : xs = [] := by simpa using h1
  refine Ag (by simp) ?_; refine Se rfl (Oa rfl (Aa (Ai ?_))); refine Fu 12 rfl rfl ?_; refine Da 0 rfl (Ay rfl) ?_; refine Da 1 rfl (Cd rfl) ?_
  first | refine Da 2 rfl (Bb rfl) ?_ | refine Da 2 rfl (Bp rfl) ?_
  refine Dt 3 [12] rfl (H1 rfl) ?_; refine Da 4 rfl (Lk rfl) ?_; refine Da 5 rfl (Ay rfl) ?_; refine Da 6 rfl (Cd rfl) ?_
  first | refine Da 7 rfl (Bb rfl) ?_ | refine Da 7 rfl (Bp rfl) ?_
  refine Dt 8 [12] rfl (H1 rfl) ?_; refine Da 9 rfl (Cq rfl) ?_; refine Da 10 rfl (Ij rfl rfl) ?_; refine Da 11 rfl (Bd rfl) ?_; refine Dk (by kernel_rfl) ?_; refine Ac (.tmp rfl .nil) ?_; refine only rfl ?_
  simp [Bj, *]
 | some p =>
  obtain ⟨bb, sp⟩ := p
  have hne : xs ≠ [] := by rcases hB.2 with h | h <;> simp_all
  have hpos := List.length_pos_iff.2 hne
  have hc := hB.1.2.1
  refine Ag (by simp) ?_; refine Se rfl (Oa rfl (Aa (Ai ?_)))
  simp only [O0, C3, List.cons_append, List.nil_append]
  refine Ro I ((b, .cells [.pointer (bif pre then some ⟨b, 0, none⟩ else none), Bw xs.length c (some (bb, sp))].toArray 78 (0, 0)) :: L) 12 rfl rfl ?_; refine Da 0 rfl (Ay rfl) ?_; refine Da 1 rfl (Cd rfl) ?_
  first | refine Da 2 rfl (Bb rfl) ?_ | refine Da 2 rfl (Bp rfl) ?_
  refine Dt 3 [12] rfl (H1 rfl) ?_; refine Da 4 rfl (Mr rfl (by omega)) ?_; refine Da 5 rfl (Ay rfl) ?_; refine Da 6 rfl (Cd rfl) ?_
  first | refine Da 7 rfl (Bb rfl) ?_ | refine Da 7 rfl (Bp rfl) ?_
  refine Dt 8 [12] rfl (H1 rfl) ?_; refine Da 9 rfl (Cq rfl) ?_; refine Iv 10 rfl (by kernel_rfl) rfl rfl rfl (by kernel_rfl) hne (by omega) (fun _ h => h.f1) (.inr Cm) .free rfl ?_; refine Da 11 rfl (Bd rfl) ?_; refine Dk (by kernel_rfl) ?_; refine Ac (.tmp rfl .nil) ?_; refine only rfl ?_
  simp [Bj, *]
structure WS where
 i : Nat
 pre : Bool
 B : Hl
 c : Nat
theorem Og (ps : List Tree) (i : Nat) : (Du (ps.take i)).length ≤ (Du ps).length := by
 rcases Nat.le_total ps.length i with h | h
 ·rw [List.take_of_length_le h]; exact Nat.le_refl _
 ·cases ps with
  | nil => simp
  | cons t ts =>
   cases i with
   | zero => simp [Du]
   | succ i =>
    have := Fs (ts.take i) (ts.drop i)
    rw [List.take_append_drop] at this
    simp [Du, this]
theorem Kw : ∀ (n : Nat) {I : Heap} {t : Tree} {cs : List Value} (_ : SizeOf.sizeOf t < n) (_ : Rep I t cs) (b : Nat) (pre : Bool) (xs : Af) (B : Hl) (c : Nat) (_ : Q9 xs B c) (_ : xs.length + t.text.length ≤ As) (L : At),
  Fun Tryd.prog 56 [.agg cs.toArray, .pointer (some ⟨b, 0, none⟩)] I (O0 b pre xs B c L)
  (fun v I' L' => v = .tuple #[] ∧ I = I' ∧ ∃ B' c', Q9 (xs ++ t.text) B' c' ∧ L' = O0 b true (xs ++ t.text) B' c' L) := by
 intro n
 induction n with
 | zero => intro I t cs h; omega
 | succ n ihn =>
  intro I t cs hlt h b pre xs B c hB hz L; obtain ⟨oa, cc, vs, rfl, hl, hs, hn, hc, ha, hp⟩ := h.open
  unfold As at hp
  refine Ag (by simp) ?_; refine Se rfl ?_; refine D2 rfl rfl .free rfl ?_; intro b2; refine Aa (Ai (Se rfl ?_)); refine B7 rfl .free rfl ?_; refine Ca rfl (D8 h _) ?_; rintro _ _ _ _ ⟨rfl, rfl, rfl⟩; refine Aa ?_; refine Si rfl ?_ ?_
  ·intro c0
   have hta := t.text_atom (by simpa using c0)
   refine Se rfl (Om rfl ?_)
   first | refine Oh rfl ?_ | refine Oj rfl ?_
   refine B7 rfl .free rfl ?_; refine E3 (fun w h => Mem.bl1 h) ?_; refine Ca rfl (Eb b pre xs B c t.atom hB (by rw [← hta]; exact hz) _ _) ?_; rintro _ _ _ _ ⟨rfl, rfl, B1, c1, hB1, rfl⟩; refine Aa ?_; refine Ac .nil ?_
   exact ⟨I, _, .refl _, fun w h => (Mem.br1 h).drop, rfl, rfl, B1, c1, by rw [hta]; exact hB1, by rw [hta]; rfl⟩
  intro c0
  have hne : t.parts ≠ [] := by simpa using c0
  have htx := t.text_eq hne
  have hz' := hz
  rw [htx] at hz'
  simp only [List.length_append, List.length_cons, List.length_nil] at hz'
  refine Aj (Ai (Se rfl ?_))
  first | refine Oh rfl ?_ | refine Oj rfl ?_
  refine B7 rfl .free rfl ?_; refine On rfl (Om rfl (Aa (Av ?_))); refine Cc (X := WS) (fun x => t.parts.length - x.i) (fun x => [(1, .pointer (some ⟨b, 0, none⟩)), (13, .slice oa t.parts.length cc), (14, .int .i64 (t.parts.length : Nat)), (15, .int .i64 (x.i : Nat))]) (fun _ => I) (fun x => O0 b x.pre (xs ++ Du (t.parts.take x.i)) x.B x.c L)
   (fun x => x.i ≤ t.parts.length ∧ Q9 (xs ++ Du (t.parts.take x.i)) x.B x.c ∧ (x.i = t.parts.length → x.pre = true)) ⟨0, pre, B, c⟩ ⟨by simp, by simpa [Du] using hB, fun hh => by simp only at hh; exact absurd (List.length_eq_zero_iff.1 hh.symm) hne⟩ ⟨rfl, rfl, rfl, rfl, trivial⟩ (fun w hh => by simpa [Du] using hh.drop) ?_
  rintro x ⟨hi, hxB, hxp⟩ ih; refine Se rfl (Oc rfl rfl rfl (Aa (Ai ?_))); refine Si rfl ?_ ?_
  ·intro c1; obtain ⟨x', hx, oa', c', hr, hst⟩ := Rep.at hl hs hn x.i (by omega)
   have htk := M5 t.parts x.i (by omega)
   have hlk := Og t.parts (x.i + 1)
   rw [htk] at hlk
   simp only [List.length_append, List.length_cons] at hlk
   refine Aj (Ai (Av (Se rfl (Om rfl ?_)))); refine Em rfl rfl _ rfl (by first | omega | exact Ax (by assumption) (by decide) | (simp; done) | (simp; omega) | decide | (simp at *; omega)) (by first | rfl | assumption) .free rfl ?_; refine B7 rfl .free rfl ?_; refine Bm .free rfl ?_; intro b5; refine Oa rfl ?_; refine Cl rfl rfl rfl rfl .free ?_; refine Aa (Ai (Se rfl (Om rfl (Oc rfl rfl rfl (Aa ?_))))); refine Si rfl ?_ ?_
   ·intro c2; refine Ap rfl (Om rfl ?_); refine E3 (fun w h => Mem.bl1 h) ?_; refine Ca rfl (Bx b x.pre _ x.B x.c 40 hxB (by rw [List.length_append]; unfold As at *; omega) _ _) ?_; rintro _ _ _ _ ⟨rfl, rfl, B1, c1, hB1, rfl⟩
    have e : xs ++ Du (t.parts.take (x.i + 1)) = xs ++ Du (t.parts.take x.i) ++ [40] ++ t.parts[x.i].text := by rw [htk, if_pos (by omega)]; simp
    refine E3 (fun w h => Mem.br1 h) ?_; refine Aa (Ap rfl ?_); refine B7 rfl .free rfl ?_; refine Om rfl ?_; refine E3 (fun w h => Mem.bl1 h) ?_; refine Ca rfl (ihn (by have := t.part_lt x.i (by omega); omega) hr b true _ B1 c1 hB1 (by simp only [List.length_append, List.length_cons, List.length_nil]; unfold As at *; omega) _) ?_; rintro _ _ _ _ ⟨rfl, rfl, B2, c2', hB2, rfl⟩; refine E3 (fun w h => (Mem.br1 h).drop) ?_; refine Aa (Ar (Ap rfl ?_)); refine Or rfl rfl rfl ?_; refine Om rfl (Aa ?_)
    refine Ed (fun w hh => ?_) (B4 (E' := [(1, .pointer (some ⟨b, 0, none⟩)), (13, .slice oa t.parts.length cc), (14, .int .i64 (t.parts.length : Nat)), (15, .int .i64 ((x.i + 1 : Nat)))]) ⟨rfl, rfl, rfl, rfl, trivial⟩ (ih ⟨x.i + 1, true, B2, c2'⟩ ⟨by simp only; omega, by simp only; rw [e]; exact hB2, fun _ => rfl⟩ (by simp only; omega)))
    simp only; rw [e]; exact hh
   intro c2; refine Ap rfl (Om rfl ?_); refine E3 (fun w h => Mem.bl1 h) ?_; refine Ca rfl (Bx b x.pre _ x.B x.c 32 hxB (by rw [List.length_append]; unfold As at *; omega) _ _) ?_; rintro _ _ _ _ ⟨rfl, rfl, B1, c1, hB1, rfl⟩
   have e : xs ++ Du (t.parts.take (x.i + 1)) = xs ++ Du (t.parts.take x.i) ++ [32] ++ t.parts[x.i].text := by rw [htk, if_neg (by omega)]; simp
   refine E3 (fun w h => Mem.br1 h) ?_; refine Aa (Ap rfl ?_); refine B7 rfl .free rfl ?_; refine Om rfl ?_; refine E3 (fun w h => Mem.bl1 h) ?_; refine Ca rfl (ihn (by have := t.part_lt x.i (by omega); omega) hr b true _ B1 c1 hB1 (by simp only [List.length_append, List.length_cons, List.length_nil]; unfold As at *; omega) _) ?_; rintro _ _ _ _ ⟨rfl, rfl, B2, c2', hB2, rfl⟩; refine E3 (fun w h => (Mem.br1 h).drop) ?_; refine Aa (Ar (Ap rfl ?_)); refine Or rfl rfl rfl ?_; refine Om rfl (Aa ?_)
   refine Ed (fun w hh => ?_) (B4 (E' := [(1, .pointer (some ⟨b, 0, none⟩)), (13, .slice oa t.parts.length cc), (14, .int .i64 (t.parts.length : Nat)), (15, .int .i64 ((x.i + 1 : Nat)))]) ⟨rfl, rfl, rfl, rfl, trivial⟩ (ih ⟨x.i + 1, true, B2, c2'⟩ ⟨by simp only; omega, by simp only; rw [e]; exact hB2, fun _ => rfl⟩ (by simp only; omega)))
   simp only; rw [e]; exact hh
  intro c1
  have hxi : x.i = t.parts.length := by omega
  rw [hxi, List.take_length] at hxB; refine C0 rfl ?_; rw [hxi, List.take_length]; refine Ap rfl (Om rfl ?_); refine Ca rfl (Bx b x.pre _ x.B x.c 41 hxB (by rw [List.length_append]; unfold As at *; omega) _ _) ?_; rintro _ _ _ _ ⟨rfl, rfl, B1, c1, hB1, rfl⟩; refine Aa ?_; refine P0 .nil ?_; refine ⟨I, _, .refl _, fun w h => h, rfl, rfl, B1, c1, ?_, ?_⟩
  ·rw [htx, ← List.append_assoc]; exact hB1
  ·rw [htx, ← List.append_assoc]

theorem Ls {I : Heap} {t : Tree} {cs : List Value} (h : Rep I t cs) (hz : t.text.length ≤ As) (L : At) : Fun Tryd.prog 39 [.agg cs.toArray] I L (Cr (.string (str t.text)) I L) := by
 obtain ⟨oa, c, vs, rfl, hl, hs, hn, hc, ha, hp⟩ := h.open; refine Ag (by simp) ?_; refine Se rfl ?_; refine D2 rfl rfl .free rfl ?_; intro b1; refine Oa rfl (Aa (Se rfl ?_)); refine Bm .free rfl ?_; intro b3; refine Aa (Se rfl ?_); refine B7 rfl .free rfl ?_; refine E3 (fun w hh => Mem.f1 hh) ?_; refine E3 (L' := O0 b3 false [] none 0 _) (fun w hh => Mem.f1 hh) ?_; refine Ca rfl (Kw _ (Nat.lt_succ_self _) h b3 false [] none 0 ⟨⟨rfl, rfl, rfl⟩, .inl rfl⟩ (by simpa using hz) _) ?_; rintro _ _ _ _ ⟨rfl, rfl, B1, c1, hB1, rfl⟩; refine Aa (Se rfl ?_)
 refine Ca rfl (E8 b3 true _ B1 c1 hB1 (by simpa using hz) _ _) ?_; rintro _ _ _ _ ⟨rfl, rfl, rfl⟩; refine Oa rfl (Aa (Ac (.tmp rfl .nil) ?_)); refine only rfl ?_
 simp [Bj, *]
def sv (s : Af) : Value := .string (str s)
structure Strs (I : Heap) (oa : Option Addr) (l : List Af) (c : Nat) : Prop where
 still : ∀ x, oa = some x → Still I x (l.map sv)
 nil : oa = none → l = []
 cap : l.length ≤ c
 len : l.length ≤ As
 each : ∀ s ∈ l, s.length ≤ As
theorem Strs.mono {I I' : Heap} {oa : Option Addr} {l : List Af} {c : Nat} (hle : HLe I I') (h : Strs I oa l c) : Strs I' oa l c :=
 ⟨fun x hx => (h.still x hx).mono hle, h.nil, h.cap, h.len, h.each⟩
theorem Strs.at {I : Heap} {oa : Option Addr} {l : List Af} {c : Nat} (h : Strs I oa l c) (i : Nat) (hi : i < l.length) : ∃ x, oa = some x ∧ Still I (x.add (i * 1)) [.string (str l[i])] := by
 cases oa with
 | none => have := h.nil rfl; subst this; simp at hi
 | some x =>
  refine ⟨x, rfl, (h.still x rfl).part (i * 1) ?_⟩; intro j hj; obtain rfl : j = 0 := by simpa using hj
  simp [hi, sv]

def Et (l : List Af) (s : Af) : Nat → Option Nat
 | 0 => none
 | n + 1 => if l.getD n [] = s then some n else Et l s n
def A3 (l : List Af) (s : Af) : Option Nat := Et l s l.length
theorem Ka {l : List Af} {s : Af} : ∀ {n i : Nat}, Et l s n = some i → i < n ∧ l.getD i [] = s := by
 intro n
 induction n with
 | zero => intro i h; simp [Et] at h
 | succ n ih =>
  intro i h
  simp only [Et] at h
  split at h
  ·simp at h; subst h; exact ⟨by omega, by assumption⟩
  ·have := ih h; exact ⟨by omega, this.2⟩
def Tk : Option Nat → Int
 | some i => i
 | none => -1

def S8 (names types : List Af) (s : Af) : Af := match A3 names s with
 | some i => types.getD i []
 | none => []
def No (names types : List Af) : Bool := decide (names.length ≤ 8) && decide (names.length = types.length) && names.all Bq && types.all fun s => (Li s).isSome
structure ES where
 I : Heap
 i : Nat
 ts : List Tree
 B : Hl
 c : Nat
 xs : List Value
structure T1 (I : Heap) (l m : List Af) (x : ES) : Prop where
 hle : HLe I x.I
 hrl : RepL x.I x.ts x.xs
 hB : Eh 2 x.i x.c x.xs x.B
 hlen : x.i = x.ts.length
 hi : x.i ≤ m.length
 hts : (m.take x.i).map Li = x.ts.map some
 hall : (l.take x.i).all Bq = true

def RE (oa : Option Addr) (l m : List Af) (c : Nat) (L : At) : A5 := fun v I' L' => ∃ oa' n c2 ob' ts c3, v = .tuple #[.agg [.slice oa' n c2, .slice ob' (List.length ts) c3].toArray, .bool (No l m)] ∧ L = L' ∧
 Rep I' (.node [] ts) [.string (str []), .slice ob' ts.length c3] ∧ (No l m = true → oa' = oa ∧ n = l.length ∧ c2 = c ∧ m.map Li = ts.map some)
def LK (o : Option Nat) (ts : List Tree) (I : Heap) (L : At) : A5 := fun v I' L' => ∃ t cs ok, v = .tuple #[.agg cs.toArray, .bool ok] ∧ I = I' ∧ L = L' ∧ Rep I t cs ∧ ok = o.isSome ∧ ∀ i, o = some i → ts[i]? = some t
def S6 (l m : List Af) (s : Af) : Option Af := bif No l m then (A3 l s).map fun i => m.getD i [] else none
def EL (o : Option Af) (L : At) : A5 := fun v I' L' => v = .tuple #[.string (str (o.getD [])), .bool o.isSome] ∧ L = L'
section rules
variable {P : Program} {f : FuncId} {n : Nat} {I₀ : Heap} {Q : A5} {k : List Item} {E : D3} {I : Heap} {L : At}
variable {ops : Array Oper} {d : Nat} {ty : TypeId} {pos : String} {af : Array Edge} {g : Option (Nat × Bool)} {l : List Oper}

theorem Hu {op : BinOp} {T : TypeId} {x y : Operand} {a b : Bool} (w : World) : (eqGuard op T x y (.bool a) (.bool b)).run P w = .ok () w := by
 unfold eqGuard; split <;> rfl
def Kq : BinOp → Bool → Bool → Option Bool
 | .eql, a, b => some (a == b)
 | .neq, a, b => some (!(a == b))
 | _, _, _ => none
theorem R3 {S : World → Prop} {op : BinOp} {T T' sz bb : Nat} {z : List Value} [ht : Ae P T .bool sz bb z] {x y : Operand} {a b r : Bool} (hx : Au E x = some (.bool a)) (hy : Au E y = some (.bool b)) (hr : Kq op a b = some r) :
  Dz P E S ⟨some d, .binOp op T x y T', ty, pos, af, g⟩ (.bool r) := fun ac w he _ => by
 simp only [execOp, he.eval hx, he.eval hy]
 refine Ab (a := _) (w' := w) ?_ |>.trans rfl
 rw [Ab (Hu w)]
 have h : ∀ d : Nat, (Op.equalIn (d + 1) T (.bool a) (.bool b)).run P w = .ok (a == b) w := fun d => by
  unfold Op.equalIn
  rw [Ab (Ao ht.und w)]
  rfl
 cases op <;> simp only [Kq, Option.some.injEq, reduceCtorEq] at hr
 ·subst hr
  simp only [binOp, Op.equal]
  exact Ab (h 9999) |>.trans rfl
 ·subst hr
  simp only [binOp, Op.equal]
  exact Ab (h 9999) |>.trans rfl
theorem I6 {op : BinOp} {T T' sz bb : Nat} {z : List Value} [ht : Ae P T .bool sz bb z] {x y : Operand} {a b r : Bool} (hx : Au E x = some (.bool a)) (hy : Au E y = some (.bool b)) (hr : Kq op a b = some r) (hg : Wants ops E g) (hdn : Nat.blt d n = true)
  (h : Ah P f n I₀ Q ops l k ((d, .bool r) :: E) I L) : Ah P f n I₀ Q ops (⟨some d, .binOp op T x y T', ty, pos, af, g⟩ :: l) k E I L := Bi (R3 hx hy hr) hg hdn h

theorem Dw {S : World → Prop} {T e : TypeId} {sz bb esz ebb : Nat} {z ez : List Value} {dd : TypeDesc} [ht : Ae P T (.slice e) sz bb z] [hte : Ae P e dd esz ebb ez] {x y : Operand} {oa : Option Addr} {ad : Addr} {m c : Nat} {i : Int}
  (hx : Au E x = some (.slice oa m c)) (hy : Au E y = some (.int .i64 i)) (i' : Nat) (hi : i = i') (him : i' < m) (hoa : oa = some ad) : Dz P E S ⟨some d, .indexAddr T x y, ty, pos, af, g⟩ (.pointer (some (ad.add (i' * esz)))) :=
 Id (hoa ▸ hx) hy i' hi him

end rules
structure Raw (I : Heap) (oa : Option Addr) (l : List Af) (c : Nat) : Prop where
 still : ∀ x, oa = some x → Still I x (l.map sv)
 nil : oa = none → l = []
 cap : l.length ≤ c
 len : l.length ≤ 9223372036854775807
 each : ∀ s ∈ l, s.length ≤ 9223372036854775807
theorem Raw.at {I : Heap} {oa : Option Addr} {l : List Af} {c : Nat} (h : Raw I oa l c) (i : Nat) (hi : i < l.length) : ∃ x, oa = some x ∧ Still I (x.add (i * 1)) [.string (str l[i])] := by
 cases oa with
 | none => have := h.nil rfl; subst this; simp at hi
 | some x =>
  refine ⟨x, rfl, (h.still x rfl).part (i * 1) ?_⟩; intro j hj; obtain rfl : j = 0 := by simpa using hj
  simp [hi, sv]

def SZ (left : Nat) (l : List Af) (I : Heap) (L : At) : A5 := fun v I' L' => ∃ r : Int, v = .int .i64 r ∧ I = I' ∧ L = L' ∧ r ≤ left ∧ (0 ≤ r → l.length ≤ left ∧ ∀ s ∈ l, s.length ≤ left)
def TS (l : List Af) (L : At) : A5 := fun v I' L' => ∃ x, v = .slice (some x) l.length l.length ∧ Strs I' (some x) l l.length ∧ L = L'
section rules
variable {P : Program} {f : FuncId} {n : Nat} {I₀ : Heap} {Q : A5} {k : List Item} {E : D3} {I : Heap} {L : At}
variable {ops : Array Oper} {d : Nat} {ty : TypeId} {pos : String} {af : Array Edge} {g : Option (Nat × Bool)} {l : List Oper}

theorem Nw {S : World → Prop} {T T' : TypeId} {x y : Operand} {a b : Nat} (hx : Au E x = some (.int .i64 (a : Nat))) (hy : Au E y = some (.int .i64 (b : Nat))) (hb : 0 < b) :
  Dz P E S ⟨some d, .binOp .rem T x y T', ty, pos, af, g⟩ (.int .i64 ((a % b : Nat))) := fun ac w he _ => by
 simp only [execOp, he.eval hx, he.eval hy]
 refine Ab (a := _) (w' := w) ?_ |>.trans rfl
 rw [Ab (B8 w)]
 have h0 : ¬ ((b : Int) = 0) := by omega
 have h1 : ((a : Int).tmod (b : Int)) = ((a % b : Nat) : Int) := by rw [Int.ofNat_tmod]
 simp only [binOp, Op.intDiv, if_neg h0, h1, ne_eq, not_true_eq_false, if_false]; rfl
theorem Rg {T T' : TypeId} {x y : Operand} {a b : Nat} (hx : Au E x = some (.int .i64 (a : Nat))) (hy : Au E y = some (.int .i64 (b : Nat))) (hb : 0 < b) (hg : Wants ops E g) (hdn : Nat.blt d n = true)
  (h : Ah P f n I₀ Q ops l k ((d, .int .i64 ((a % b : Nat))) :: E) I L) : Ah P f n I₀ Q ops (⟨some d, .binOp .rem T x y T', ty, pos, af, g⟩ :: l) k E I L := Bi (Nw hx hy hb) hg hdn h
theorem Qc {S : World → Prop} {T T' : TypeId} {x y : Operand} {a b : Nat} (hx : Au E x = some (.int .i64 (a : Nat))) (hy : Au E y = some (.int .i64 (b : Nat))) (hb : 0 < b) (ha : a ≤ 9223372036854775807) :
  Dz P E S ⟨some d, .binOp .quo T x y T', ty, pos, af, g⟩ (.int .i64 ((a / b : Nat))) := fun ac w he _ => by
 simp only [execOp, he.eval hx, he.eval hy]
 refine Ab (a := _) (w' := w) ?_ |>.trans rfl
 rw [Ab (B8 w)]
 have h0 : ¬ ((b : Int) = 0) := by omega
 have h1 : ((a : Int).tdiv (b : Int)) = ((a / b : Nat) : Int) := by rw [Int.ofNat_tdiv]
 have h2 : IntKind.i64.wrap ((a / b : Nat) : Int) = ((a / b : Nat) : Int) := by
  obtain ⟨q, hq, hle⟩ : ∃ q, q = a / b ∧ q ≤ a := ⟨_, rfl, Nat.div_le_self a b⟩; rw [← hq]; exact Hh (by omega)
 simp only [binOp, Op.intDiv, if_neg h0, h1, h2, ne_eq, not_true_eq_false, if_false]; rfl
theorem Sy {T T' : TypeId} {x y : Operand} {a b : Nat} (hx : Au E x = some (.int .i64 (a : Nat))) (hy : Au E y = some (.int .i64 (b : Nat))) (hb : 0 < b) (ha : a ≤ 9223372036854775807) (hg : Wants ops E g) (hdn : Nat.blt d n = true)
  (h : Ah P f n I₀ Q ops l k ((d, .int .i64 ((a / b : Nat))) :: E) I L) : Ah P f n I₀ Q ops (⟨some d, .binOp .quo T x y T', ty, pos, af, g⟩ :: l) k E I L := Bi (Qc hx hy hb ha) hg hdn h
theorem S2 {S : World → Prop} {T T' : TypeId} {x y : Operand} {a b : Nat} (hx : Au E x = some (.int .i64 (a : Nat))) (hy : Au E y = some (.int .i64 (b : Nat))) (ha : a ≤ 9223372036854775807) (hb : b ≤ 9223372036854775807) :
  Dz P E S ⟨some d, .binOp .xor T x y T', ty, pos, af, g⟩ (.int .i64 ((a ^^^ b : Nat))) := fun ac w he _ => by
 simp only [execOp, he.eval hx, he.eval hy]
 refine Ab (a := _) (w' := w) ?_ |>.trans rfl
 rw [Ab (B8 w)]
 have hn : ∀ c : Nat, c ≤ 9223372036854775807 → (BitVec.ofInt 64 (c : Int)).toNat = c := fun c hc => by
  rw [BitVec.ofInt_natCast, BitVec.toNat_ofNat]; exact Nat.mod_eq_of_lt (by omega)
 have hlt : a ^^^ b < 2 ^ 63 := Nat.xor_lt_two_pow (by omega) (by omega)
 have h1 : (BitVec.ofInt IntKind.i64.bits (a : Int) ^^^ BitVec.ofInt IntKind.i64.bits (b : Int)).toNat = a ^^^ b := by
  show (BitVec.ofInt 64 (a : Int) ^^^ BitVec.ofInt 64 (b : Int)).toNat = _
  rw [BitVec.toNat_xor, hn a ha, hn b hb]
 have h2 : IntKind.i64.wrap ((a ^^^ b : Nat) : Int) = ((a ^^^ b : Nat) : Int) := Hh (by omega)
 simp only [binOp, Op.intBits, h1, h2, ne_eq, not_true_eq_false, if_false]; rfl
theorem Sz {T T' : TypeId} {x y : Operand} {a b : Nat} (hx : Au E x = some (.int .i64 (a : Nat))) (hy : Au E y = some (.int .i64 (b : Nat))) (ha : a ≤ 9223372036854775807) (hb : b ≤ 9223372036854775807) (hg : Wants ops E g) (hdn : Nat.blt d n = true)
  (h : Ah P f n I₀ Q ops l k ((d, .int .i64 ((a ^^^ b : Nat))) :: E) I L) : Ah P f n I₀ Q ops (⟨some d, .binOp .xor T x y T', ty, pos, af, g⟩ :: l) k E I L := Bi (S2 hx hy ha hb) hg hdn h

theorem H0 {S : World → Prop} {src dst sz bb sz2 bb2 : Nat} {z z2 : List Value} [hs : Ae P src (.int .u8) sz bb z] [hd : Ae P dst (.int .i64) sz2 bb2 z2] {x : Operand} {a : Nat} (hx : Au E x = some (.int .u8 (a : Nat))) (ha : a < 256) :
  Dz P E S ⟨some d, .convert src dst x, ty, pos, af, g⟩ (.int .i64 (a : Nat)) := fun ac w he _ => by
 simp only [execOp, he.eval hx]
 refine Ab (a := .int .i64 (a : Nat)) (w' := w) ?_ |>.trans rfl
 unfold convert
 rw [Ab (Ao hs.und w), Ab (Ao hd.und w)]
 simp only [Conv.intToInt]
 rw [Hh (by omega)]
 rfl
theorem Gl {src dst sz bb sz2 bb2 : Nat} {z z2 : List Value} [hs : Ae P src (.int .u8) sz bb z] [hd : Ae P dst (.int .i64) sz2 bb2 z2] {x : Operand} {a : Nat} (hx : Au E x = some (.int .u8 (a : Nat))) (ha : a < 256) (hg : Wants ops E g) (hdn : Nat.blt d n = true)
  (h : Ah P f n I₀ Q ops l k ((d, .int .i64 (a : Nat)) :: E) I L) : Ah P f n I₀ Q ops (⟨some d, .convert src dst x, ty, pos, af, g⟩ :: l) k E I L := Bi (H0 hx ha) hg hdn h
end rules

structure Bytes (I : Heap) (oa : Option Addr) (l : List UInt8) (c : Nat) : Prop where
 still : ∀ x, oa = some x → Still I x (l.map bv)
 nil : oa = none → l = []
 cap : l.length ≤ c
 len : l.length ≤ 9223372036854775807
theorem Bytes.mono {I I' : Heap} {oa : Option Addr} {l : List UInt8} {c : Nat} (hle : HLe I I') (h : Bytes I oa l c) : Bytes I' oa l c :=
 ⟨fun x hx => (h.still x hx).mono hle, h.nil, h.cap, h.len⟩
theorem Bytes.at {I : Heap} {oa : Option Addr} {l : List UInt8} {c : Nat} (h : Bytes I oa l c) (i : Nat) (hi : i < l.length) : ∃ x, oa = some x ∧ Still I (x.add (i * 1)) [.int .u8 (l[i].toNat : Nat)] := by
 cases oa with
 | none => have := h.nil rfl; subst this; simp at hi
 | some x =>
  refine ⟨x, rfl, (h.still x rfl).part (i * 1) ?_⟩; intro j hj; obtain rfl : j = 0 := by simpa using hj
  simp [hi, bv]
end Go.Proofs.YtbmgbhfeifgciaaDoor
