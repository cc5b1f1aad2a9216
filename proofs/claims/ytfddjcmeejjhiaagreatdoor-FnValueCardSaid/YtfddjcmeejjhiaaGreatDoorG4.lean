/- What reading a whole text returns. No conditions. -/
import Derived.Test.YtfddjcmeejjhiaaGreatDoorG3
import Derived.Lib.Builder
import Derived.Lib.UnsafeStr
import Derived.Laws.MakeOwn

namespace Go.Proofs.YtfddjcmeejjhiaaGreatDoor
set_option maxRecDepth 100000
set_option linter.unusedVariables false
set_option linter.unusedSimpArgs false

def RD (p : Option Tree) (L : Bh ) : Cs   := fun v I' L' => ∃ t cs ok, v = .tuple #[.agg cs.toArray, .bool ok] ∧ Rep I' t cs ∧ L = L' ∧
  (match p with
   | some t0 => ok = true ∧ t = t0
   | none => ok = false)

theorem Aco (s : Ap) (hs : s.length ≤ Az) (I : Heap) (L : Bh) : Fun Tryz.prog 74 [.string (str s)] I L (RD (C7 s) L) := by
 unfold Az at hs
 refine Ag (by simp) ?_; refine Se rfl ?_; refine Aw .free rfl ?_; intro b2; refine Oa rfl (Aa (Ab (Se rfl (Om rfl ?_)))); refine Cn rfl .free rfl ?_; refine Oc rfl rfl rfl (Aa ?_); refine Si rfl ?_ ?_
 ·intro c0; refine Se rfl ?_; refine Bt rfl rfl rfl .free rfl ?_; refine Bn rfl rfl rfl rfl .free ?_; refine Oa rfl (Aa ?_); refine Ad (.c rfl (.tmp rfl .nil)) ?_
  exact ⟨I, L, .refl _, fun _ h => h.drop, .node [] [], _, false, rfl, Rep.empty I, rfl, by rw [C7, if_pos (by omega)]⟩
 intro c0; refine Ae (Se rfl (Om rfl ?_)); refine Ca rfl (V5 60 s (by omega) 0 rfl _ _) ?_; rintro _ J _ hleJ ⟨t, cs, r, ok, rfl, hrep, rfl, hrlen, hpf⟩; obtain ⟨oa, cc, vs, rfl, -⟩ := hrep.open; refine Om rfl ?_
 iterate 3 refine Oe rfl rfl ?_
 refine Aw .free rfl ?_; intro b4; refine Bn rfl rfl rfl rfl .free ?_; refine Oa rfl (Oa rfl (Aa (Se rfl ?_))); refine Cr rfl .free rfl ?_; refine Om rfl (Om rfl ?_)
 first | refine F3 rfl rfl ?_ ?_ | refine Em rfl rfl ?_ ?_ | refine Kq rfl rfl ?_ ?_
 ·intro g4_3; refine Ow rfl ?_; refine Cg rfl rfl rfl (.met rfl rfl) rfl ?_; refine Ot rfl rfl ?_; refine Bn rfl rfl rfl rfl .free ?_; refine Oa rfl (Aa ?_); refine Ad (.c rfl (.tmp rfl .nil)) ?_; refine ⟨J, L, hleJ, fun _ h => h.drop.drop, t, _, _, rfl, hrep, rfl, ?_⟩; rw [C7, if_neg (by omega)]
  cases hp : Ea 60 s with
  | none => simp_all
  | some p =>
   obtain ⟨t0, r0⟩ := p; rw [hp] at hpf; obtain ⟨rfl, rfl, rfl⟩ := hpf
   cases r <;> simp_all
 intro g4_3; refine Cd rfl rfl rfl ?_; refine Cd rfl rfl rfl ?_; refine Of rfl rfl ?_; refine Bn rfl rfl rfl rfl .free ?_; refine Oa rfl (Aa ?_); refine Ad (.c rfl (.tmp rfl .nil)) ?_; refine ⟨J, L, hleJ, fun _ h => h.drop.drop, t, _, _, rfl, hrep, rfl, ?_⟩; rw [C7, if_neg (by omega)]
 cases hp : Ea 60 s with
 | none => simp_all
 | some p =>
  obtain ⟨t0, r0⟩ := p; rw [hp] at hpf; obtain ⟨rfl, rfl, rfl⟩ := hpf
  cases r <;> simp_all

def RT (p : Option Tree) (L : Bh ) : Cs   := fun v I' L' => ∃ t cs ok, v = .tuple #[.agg cs.toArray, .bool ok] ∧ Rep I' t cs ∧ L = L' ∧
  (match p with
   | some t0 => ok = t0.typed ∧ t = t0
   | none => ok = false)

def LR (s : Ap ) (p : Option (Tree × Ap )) (L : Bh ) : Cs   := fun v I' L' => ∃ t cs e, v = .tuple #[.agg cs.toArray, .int .i64 e] ∧ Rep I' t cs ∧ L = L' ∧
  (match p with
   | some (t0, r0) => t = t0 ∧ e = ((s.length - r0.length : Nat) : Int)
   | none => e = -1)
def Hc : Nat → Ap → Option (Tree × Ap)
 | 0, _ => none
 | k + 1, s => Ea k s
theorem S0 {k : Nat} {s : Ap} {t : Tree} {r : Ap} (h : Hc k s = some (t, r)) : r <:+ s := by
 cases k with
 | zero => cases h
 | succ k => exact Mx h
theorem Yo {k : Nat} {s : Ap} {t : Tree} {r : Ap} (h : Hc k s = some (t, r)) : r.length < s.length := by
 cases k with
 | zero => cases h
 | succ k => exact Ro h
theorem Tb : ∀ (n : Nat) (s : Ap), Ek (fun _ => none) n s = none
 | 0, _ => rfl
 | n + 1, s => rfl
theorem Tc {k : Nat} {s : Ap} (h : (s.getD 0 0).toNat = 40) : Ea k s = (match Ek (Hc k) s.length (s.drop 1) with
  | some (ts, r) => some (.node [] ts, r)
  | none => none) := by
 cases k with
 | zero => rw [Is h, show Hc 0 = fun _ => none from rfl, Tb]
 | succ k => exact Hq h
structure LS where
 I : Heap
 i : Nat
 m : Nat
 ts : List Tree
 B : Ju
 c : Nat
 xs : List Value
 n : Nat
def Ada (k : Nat) (s : Ap) (i₀ : Nat) (I₀ : Heap) (x : LS) : Prop := HLe I₀ x.I ∧ RepL x.I x.ts x.xs ∧ Er 2 x.m x.c x.xs x.B ∧ x.m = x.ts.length ∧ x.i < s.length ∧ s.length - x.i ≤ x.n ∧ x.m + (s.length - x.i) ≤ s.length ∧
 Ph (Hc k) (Ea k (s.drop i₀)) ⟨x.I, s.drop x.i, x.m, x.ts, x.B, x.c, x.xs, x.n⟩
theorem Ie (s : Ap) (i n : Nat) : (s.drop i).getD n 0 = s.getD (i + n) 0 := by simp [List.getD_eq_getElem?_getD, List.getElem?_drop]
theorem Lc {s : Ap} {p : Option (Tree × Ap)} {t : Tree} {cs : List Value} {I : Heap} {L : Bh} (hr : Rep I t cs) (hp : p = none) : LR s p L (.tuple #[.agg cs.toArray, .int .i64 (-1)]) I L :=
 ⟨t, cs, -1, rfl, hr, rfl, by rw [hp]⟩

theorem Zy : ∀ (k : Nat) (s : Ap) (_ : s.length ≤ 12000) (i : Nat) (_ : i ≤ s.length) (depth : Nat) (_ : depth + k = 61) (I : Heap) (L : Bh),
  Fun Tryz.prog 112 [.string (str s), .int .i64 (i : Nat), .int .i64 (depth : Nat)] I L (LR s (Hc k (s.drop i)) L) := by
 intro k
 induction k with
 | zero =>
  intro s hsl i hi depth hdeep I L; refine Ag (by simp) ?_; refine Se rfl ?_; refine Aw .free rfl ?_; intro b6; refine Oa rfl (Aa (Se rfl ?_)); refine Bt rfl rfl rfl .free rfl ?_; refine Aw .free rfl ?_; intro b8; refine Bn rfl rfl rfl rfl .free ?_; refine Aa (Ab (Se rfl (Om rfl (Oc rfl rfl rfl (Om rfl ?_)))))
  first | refine Acr rfl rfl (by omega) ?_ | refine Acq rfl rfl (by omega) ?_
  iterate 4 refine Cd rfl rfl rfl ?_
  refine Ot rfl rfl (Aa ?_); refine Bj rfl ?_; refine Se rfl ?_; refine Cr rfl .free rfl ?_; refine Bn rfl rfl rfl rfl .free ?_; refine Oa rfl (Aa ?_); refine Ad (.c rfl (.tmp rfl .nil)) ?_
  exact ⟨I, L, .refl _, fun _ h => h.drop.drop, .node [] [], _, -1, rfl, Rep.empty I, rfl, rfl⟩
 | succ k ihk =>
  intro s hsl i hi depth hdeep I L; refine Ag (by simp) ?_; refine Se rfl ?_; refine Aw .free rfl ?_; intro b6; refine Oa rfl (Aa (Se rfl ?_)); refine Bt rfl rfl rfl .free rfl ?_; refine Aw .free rfl ?_; intro b8; refine Bn rfl rfl rfl rfl .free ?_; refine Aa (Ab (Se rfl (Om rfl (Oc rfl rfl rfl (Om rfl ?_)))))
  first | refine Zw rfl rfl (by omega) ?_ | refine Zv rfl rfl (by omega) ?_
  refine Ow rfl (Ow rfl ?_); refine Cn rfl (.met rfl rfl) rfl ?_; refine Dh rfl rfl rfl (.met rfl rfl) rfl ?_; refine Of rfl rfl (Aa ?_); refine Si rfl ?_ ?_
  ·intro c0; refine Se rfl ?_; refine Cr rfl .free rfl ?_; refine Bn rfl rfl rfl rfl .free ?_; refine Oa rfl (Aa ?_); refine Ad (.c rfl (.tmp rfl .nil)) ?_
   exact ⟨I, L, .refl _, fun _ h => h.drop.drop, Lc (Rep.empty I) (by simp only [Hc]; rw [List.drop_eq_nil_of_le (by omega)]; cases k <;> rfl)⟩
  intro c0; refine Ae (Ab (Se rfl (Om rfl (Om rfl ?_)))); refine De rfl rfl rfl (by first | omega | exact Cb (by assumption) (by decide) | (simp; done) | (simp; omega) | decide | (simp at *; omega)) .free rfl ?_; refine Oc rfl rfl rfl (Aa ?_); refine Si rfl ?_ ?_
  ·intro c1
   have h40 : ((s.drop i).getD 0 0).toNat ≠ 40 := by rw [Ie]; simp only [Nat.add_zero]; omega
   refine Se rfl (Om rfl (Oa rfl (Aa (Ab (Aj ?_))))); refine Dv (X := Nat) (fun n => s.length - i - n) (fun n => [(0, .string (str s)), (1, .int .i64 ((i + n : Nat))), (6, .pointer (some ⟨b6, 0, none⟩)), (8, .pointer (some ⟨b8, 0, none⟩)), (9, .int .i64 (i : Nat))]) (fun _ => I)
    (fun _ => (b8, .cells [.string (str []), .slice none 0 0].toArray 46 (0, 0)) :: (b6, .cells [.string (str []), .slice none 0 0].toArray 46 (0, 0)) :: L) (fun n => i + n ≤ s.length ∧ ((s.drop i).take n).all Es = true) 0 ⟨by omega, by simp⟩ ⟨rfl, rfl, rfl, rfl, rfl, trivial⟩ (fun _ h => h) ?_
   rintro n ⟨hn, hall⟩ ih; refine Ab (Se rfl (Om rfl (Om rfl ?_))); refine Cn rfl .free rfl ?_; refine Oc rfl rfl rfl (Om rfl ?_)
   first | refine F3 rfl rfl ?_ ?_ | refine Em rfl rfl ?_ ?_ | refine Kq rfl rfl ?_ ?_
   ·intro g6_5; refine Ow rfl (Ow rfl ?_); refine De rfl rfl rfl (by first | omega | exact Cb (by assumption) (by decide) | (simp; done) | (simp; omega) | decide | (simp at *; omega)) (.met rfl rfl) rfl ?_; refine B9 rfl (.met rfl rfl) rfl (Zx _ _ _) ?_; rintro _ _ _ _ ⟨rfl, rfl, rfl⟩; refine Ot rfl rfl (Aa ?_); refine Si rfl ?_ ?_
    ·intro c2; refine Ae (Aj (Af rfl (Om rfl ?_))); refine Or rfl rfl rfl ?_; refine Oa rfl (Aa (Ak ?_)); refine Bp (E' := [(0, .string (str s)), (1, .int .i64 ((i + (n + 1) : Nat))), (6, .pointer (some ⟨b6, 0, none⟩)), (8, .pointer (some ⟨b8, 0, none⟩)), (9, .int .i64 (i : Nat))]) ⟨rfl, rfl, rfl, rfl, rfl, trivial⟩ (ih (n + 1) ⟨by omega, Iv hall (by rw [List.length_drop]; omega) (by rw [Ie]; assumption)⟩ (by omega))
    intro c2; refine Bz rfl ?_; refine Ab ?_
    have htw := Kl (n := n) hall (by first | exact .inl (by rw [List.length_drop]; omega) | exact .inr ⟨by rw [List.length_drop]; omega, by rw [Ie]; assumption⟩)
    have hpo := Gw (k := k) h40
    rw [htw.1, htw.2] at hpo
    have hdt : (s.take (i + n)).drop i = (s.drop i).take n := by rw [List.drop_take]; congr 1; omega
    refine Af rfl ?_
    iterate 3 refine Om rfl ?_
    refine O0 rfl rfl rfl i (i + n) rfl rfl (by omega) .free rfl ?_; rw [hdt]
    first | refine Oh rfl ?_ | refine Oj rfl ?_
    refine Bn rfl rfl rfl rfl .free ?_; refine Aa (Ab (Se rfl ?_))
    first | refine Oh rfl ?_ | refine Oj rfl ?_
    refine Cr rfl .free rfl ?_; refine Od rfl rfl rfl (Aa ?_); refine Si rfl ?_ ?_
    ·intro c3; refine Se rfl ?_; refine Cr rfl .free rfl ?_; refine Bn rfl rfl rfl rfl .free ?_; refine Oa rfl (Aa ?_); refine Ad (.c rfl (.tmp rfl .nil)) ?_
     exact ⟨I, L, .refl _, fun _ h => h.drop.drop, Lc (.ofAtom (by unfold Az; simp; omega)) (by simp only [Hc]; rw [hpo, if_pos (by assumption)])⟩
    intro c3; refine Ae (Se rfl ?_); refine Cr rfl .free rfl ?_; refine Om rfl ?_; refine Bn rfl rfl rfl rfl .free ?_; refine Oa rfl (Aa ?_); refine Ad (.c rfl (.tmp rfl .nil)) ?_; refine ⟨I, L, .refl _, fun _ h => h.drop.drop, .node ((s.drop i).take n) [], _, _, rfl, .ofAtom (by unfold Az; simp; omega), rfl, ?_⟩
    simp only [Hc]; rw [hpo, if_neg (by assumption)]
    refine ⟨rfl, ?_⟩
    simp only [List.length_drop]; omega
   intro g6_5
   iterate 4 refine Cd rfl rfl rfl ?_
   refine Of rfl rfl (Aa ?_); refine Al rfl ?_; refine Bz rfl ?_; refine Ab ?_
   have htw := Kl (n := n) hall (by first | exact .inl (by rw [List.length_drop]; omega) | exact .inr ⟨by rw [List.length_drop]; omega, by rw [Ie]; assumption⟩)
   have hpo := Gw (k := k) h40
   rw [htw.1, htw.2] at hpo
   have hdt : (s.take (i + n)).drop i = (s.drop i).take n := by rw [List.drop_take]; congr 1; omega
   refine Af rfl ?_
   iterate 3 refine Om rfl ?_
   refine O0 rfl rfl rfl i (i + n) rfl rfl (by omega) .free rfl ?_; rw [hdt]
   first | refine Oh rfl ?_ | refine Oj rfl ?_
   refine Bn rfl rfl rfl rfl .free ?_; refine Aa (Ab (Se rfl ?_))
   first | refine Oh rfl ?_ | refine Oj rfl ?_
   refine Cr rfl .free rfl ?_; refine Od rfl rfl rfl (Aa ?_); refine Si rfl ?_ ?_
   ·intro c3; refine Se rfl ?_; refine Cr rfl .free rfl ?_; refine Bn rfl rfl rfl rfl .free ?_; refine Oa rfl (Aa ?_); refine Ad (.c rfl (.tmp rfl .nil)) ?_
    exact ⟨I, L, .refl _, fun _ h => h.drop.drop, Lc (.ofAtom (by unfold Az; simp; omega)) (by simp only [Hc]; rw [hpo, if_pos (by assumption)])⟩
   intro c3; refine Ae (Se rfl ?_); refine Cr rfl .free rfl ?_; refine Om rfl ?_; refine Bn rfl rfl rfl rfl .free ?_; refine Oa rfl (Aa ?_); refine Ad (.c rfl (.tmp rfl .nil)) ?_; refine ⟨I, L, .refl _, fun _ h => h.drop.drop, .node ((s.drop i).take n) [], _, _, rfl, .ofAtom (by unfold Az; simp; omega), rfl, ?_⟩
   simp only [Hc]; rw [hpo, if_neg (by assumption)]
   refine ⟨rfl, ?_⟩
   simp only [List.length_drop]; omega
  intro c1; refine Ae (Aj ?_)
  have hi' : i < s.length := by omega
  refine Dv (X := LS) (fun x => s.length - x.i) (fun x => [(0, .string (str s)), (1, .int .i64 (x.i : Nat)), (2, .int .i64 (depth : Nat)), (6, .pointer (some ⟨b6, 0, none⟩)), (8, .pointer (some ⟨b8, 0, none⟩))]) (fun x => x.I)
   (fun x => (b8, .cells [.string (str []), B8 x.m x.c x.B].toArray 46 (0, 0)) :: (b6, .cells [.string (str []), .slice none 0 0].toArray 46 (0, 0)) :: (Cf 46 x.xs x.B ++ L)) (Ada k s i I) ⟨I, i, 0, [], none, 0, [], s.length - i⟩
   ⟨.refl _, .nil, ⟨rfl, rfl, rfl⟩, rfl, hi', Nat.le_refl _, by simp, by
    have := Tc (k := k) (s := s.drop i) (by rw [Ie]; simp only [Nat.add_zero]; omega)
    rw [List.length_drop] at this
    unfold Ph
    split <;> simp_all⟩ ⟨rfl, rfl, rfl, rfl, rfl, trivial⟩ (fun _ h => h) ?_
  rintro x ⟨hle, hrl, hB, hxm, hxi, hxn, hxt, hlink⟩ ih; refine Aj (Se rfl (Om rfl (Om rfl ?_))); refine Or rfl rfl rfl ?_; refine Om rfl ?_; refine Or rfl rfl rfl ?_; refine Ca rfl (ihk s hsl (x.i + 1) (by omega) (depth + 1) (by omega) _ _) ?_; rintro _ J _ hleJ ⟨t, cs, e, rfl, hrep, rfl, hpf⟩; obtain ⟨oa, cc, vs, rfl, -⟩ := hrep.open
  have hdd : (s.drop x.i).drop 1 = s.drop (x.i + 1) := by rw [List.drop_drop]
  obtain ⟨je, hje⟩ : ∃ je : Nat, e = je ∨ e = -1 := by
   cases hp : Hc k (s.drop (x.i + 1)) with
   | none => rw [hp] at hpf; exact ⟨0, .inr hpf⟩
   | some p => rw [hp] at hpf; exact ⟨_, .inl hpf.2⟩
  refine Om rfl (Oe rfl rfl (Oe rfl rfl ?_)); refine Aw .free rfl ?_; intro b10; refine Bn rfl rfl rfl rfl .free ?_; refine Oa rfl (Aa (Ab (Se rfl (Om rfl (Oc rfl rfl rfl (Om rfl ?_))))))
  first | refine F3 rfl rfl ?_ ?_ | refine Em rfl rfl ?_ ?_ | refine Kq rfl rfl ?_ ?_
  ·intro g13_3
   iterate 4 refine Cd rfl rfl rfl ?_
   refine Ot rfl rfl (Aa ?_); refine Bj rfl ?_; refine Ab ?_; refine Bg (fun w h => h.u3) (O2 (a := []) (hrl.mono hleJ) hB hxm (by simp [Az]) (by unfold Az; omega) ?_); intro J2 hle2 hrep2; refine Af rfl ?_; refine Cr rfl .free rfl ?_; refine Bn rfl rfl rfl rfl .free ?_; refine Oa rfl (Aa ?_); refine Ad (.c rfl (.tmp rfl .nil)) ?_
   have hf : Ea k (s.drop i) = none := by
    refine If hlink (by simp only; omega) ?_
    simp only [hdd]
    cases hp : Hc k (s.drop (x.i + 1)) with
    | none => exact .inl rfl
    | some p =>
     obtain ⟨t0, r0⟩ := p; rw [hp] at hpf; refine .inr ⟨t0, r0, rfl, .inl ?_⟩
     have h2 := hpf.2
     apply List.eq_nil_of_length_eq_zero
     omega
   exact ⟨J2, L, (hle.trans hleJ).trans hle2, fun _ h => h.drop.drop.drop, Lc hrep2 hf⟩
  intro g13_3; refine Ow rfl (Ow rfl ?_); refine Cn rfl (.met rfl rfl) rfl ?_; refine Dh rfl rfl rfl (.met rfl rfl) rfl ?_; refine Of rfl rfl (Aa ?_); refine Si rfl ?_ ?_
  ·intro c4; refine Ab ?_; refine Bg (fun w h => h.u3) (O2 (a := []) (hrl.mono hleJ) hB hxm (by simp [Az]) (by unfold Az; omega) ?_); intro J2 hle2 hrep2; refine Af rfl ?_; refine Cr rfl .free rfl ?_; refine Bn rfl rfl rfl rfl .free ?_; refine Oa rfl (Aa ?_); refine Ad (.c rfl (.tmp rfl .nil)) ?_
   have hf : Ea k (s.drop i) = none := by
    refine If hlink (by simp only; omega) ?_
    simp only [hdd]
    cases hp : Hc k (s.drop (x.i + 1)) with
    | none => exact .inl rfl
    | some p =>
     obtain ⟨t0, r0⟩ := p; rw [hp] at hpf; refine .inr ⟨t0, r0, rfl, .inl ?_⟩
     have h2 := hpf.2
     apply List.eq_nil_of_length_eq_zero
     omega
   exact ⟨J2, L, (hle.trans hleJ).trans hle2, fun _ h => h.drop.drop.drop, Lc hrep2 hf⟩
  intro c4; refine Ae (Ab ?_); obtain rfl : e = je := by omega
  obtain ⟨r, hpf', hre, hrne⟩ : ∃ r, Hc k (s.drop (x.i + 1)) = some (t, r) ∧ r = s.drop je ∧ r ≠ [] := by
   cases hp : Hc k (s.drop (x.i + 1)) with
   | none => rw [hp] at hpf; omega
   | some p =>
    obtain ⟨t0, r0⟩ := p; rw [hp] at hpf; obtain ⟨rfl, h2⟩ := hpf
    have hsf := S0 hp
    have h3 := Vj (hsf.trans (List.drop_suffix _ _))
    have h4 := hsf.length_le
    rw [List.length_drop] at h4
    have h5 : je = s.length - r0.length := by omega
    refine ⟨r0, rfl, by rw [h5]; exact h3, ?_⟩; intro e; subst e; simp at h5; omega
  have hrl0 : r.length = s.length - je := by rw [hre]; simp
  have hrpos := List.length_pos_iff.2 hrne
  have hrlt : x.i + 1 < je := by have := Yo hpf'; rw [List.length_drop] at this; omega
  refine Af rfl ?_
  first | refine Oh rfl ?_ | refine Oj rfl ?_
  refine Cr rfl .free rfl ?_; refine Cr rfl .free rfl ?_; refine Ol rfl rfl ?_; intro b71; refine Dw (B := x.B) (xs := x.xs) (ys := [.string (str t.atom), .slice oa t.parts.length cc]) (m := x.m) (c := x.c) (by intro kk; simp) (by rfl) rfl rfl hB (fun _ h => h.u4) (by rfl) (fun a ha => by cases ha; exact Ce (.head _) (by rfl)) (by simp) (by rfl) (by decide) (by decide) (by omega) (by decide) .free rfl ?_; intro bb sp c' hB'
  first | refine Oh rfl ?_ | refine Oj rfl ?_
  refine Bn rfl rfl rfl rfl .free ?_
  have hrl' : RepL J (x.ts ++ [t]) (x.xs ++ [Value.string (str t.atom), Value.slice oa t.parts.length cc]) := (hrl.mono hleJ).append (.cons hrep .nil)
  have hlen' : x.m + 1 = (x.ts ++ [t]).length := by simp [hxm]
  have hhd : r.getD 0 0 = s.getD je 0 := by rw [hre, Ie]; rfl
  refine Aa (Se rfl (Om rfl (Oa rfl (Aa (Ab (Se rfl (Om rfl (Om rfl ?_)))))))); refine De rfl rfl rfl (by omega) .free rfl ?_; refine Oc rfl rfl rfl (Aa ?_); refine Si rfl ?_ ?_
  ·intro c5; refine Ab ?_; refine Bi ?_; intro hfz; refine Af rfl ?_; refine Cr rfl .free rfl ?_; refine Om rfl ?_; refine Or rfl rfl rfl ?_; refine Bn rfl rfl rfl rfl .free ?_; refine Oa rfl (Aa ?_); refine Ad (.c rfl (.tmp rfl .nil)) ?_; refine ⟨_, L, (hle.trans hleJ).trans hfz, fun _ h => h.drop.drop.drop.drop, .node [] (x.ts ++ [t]), _, _, rfl, .mk' hlen' (hrl'.mono hfz) (fun y hy => by cases hy; exact Be) (by simp) hB'.2.1 (by simp [Az]) (by unfold Az; omega), rfl, ?_⟩
   simp only [Hc]
   rw [Np hlink (by simp only; omega) (by simp only [hdd]; exact hpf') hrne (by rw [hhd]; omega)]; refine ⟨rfl, ?_⟩
   simp only [List.length_drop]; omega
  intro c5; refine Ae (Se rfl (Om rfl (Om rfl ?_))); refine De rfl rfl rfl (by omega) .free rfl ?_; refine Oc rfl rfl rfl (Aa ?_); refine Si rfl ?_ ?_
  ·intro c6; refine Ab ?_; refine Bi ?_; intro hfz; refine Af rfl ?_; refine Cr rfl .free rfl ?_; refine Bn rfl rfl rfl rfl .free ?_; refine Oa rfl (Aa ?_); refine Ad (.c rfl (.tmp rfl .nil)) ?_
   have hf : Ea k (s.drop i) = none := by
    refine If hlink (by simp only; omega) (.inr ⟨t, r, by simp only [hdd]; exact hpf', .inr ⟨by rw [hhd]; omega, by rw [hhd]; omega⟩⟩)
   exact ⟨_, L, (hle.trans hleJ).trans hfz, fun _ h => h.drop.drop.drop.drop, Lc (t := .node [] (x.ts ++ [t])) (.mk' hlen' (hrl'.mono hfz) (fun y hy => by cases hy; exact Be) (by simp) hB'.2.1 (by simp [Az]) (by unfold Az; omega)) hf⟩
  intro c6; refine Ae (Ak ?_); refine Bg (fun w h => Mem.sub (L' := (b8, _) :: (b6, _) :: (bb, _) :: L) (by repeat (first | exact List.Sublist.refl _ | apply List.Sublist.cons_cons | apply List.Sublist.cons)) h.f4.f4) (Bp ?_ (ih ⟨J, je, x.m + 1, x.ts ++ [t], some (bb, sp), c', _, x.n - 1⟩ ⟨hle.trans hleJ, hrl', hB', hlen', by simp only; omega, by simp only; omega, by simp only; omega, ?_⟩ (by simp only; omega)))
  ·exact ⟨rfl, rfl, rfl, rfl, rfl, trivial⟩
  ·have := Nq (I := J) (B := some (bb, sp)) (c := c') (m' := x.m + 1) (xs := x.xs ++ [Value.string (str t.atom), Value.slice oa t.parts.length cc]) hlink (by simp only; omega) (by simp only [hdd]; exact hpf') hrne (by rw [hhd]; omega) (by rw [hhd]; omega)
   rw [hre] at this
   exact this

def Iz : Nat := 9223372036854775807
theorem Jq {n : Nat} (h : n ≤ Az) : n ≤ Iz := by unfold Az at h; unfold Iz; omega
theorem Gs (s : Ap) (hs : s.length ≤ Iz) (I : Heap) (L : Bh) : Fun Tryz.prog 65 [.string (str s)] I L (RD (C7 s) L) := by
 unfold Iz at hs
 refine Ag (by simp) ?_; refine Se rfl ?_; refine Aw .free rfl ?_; intro b2; refine Oa rfl (Aa (Ab (Se rfl (Om rfl ?_)))); refine Cn rfl .free rfl ?_; refine Oc rfl rfl rfl (Aa ?_); refine Si rfl ?_ ?_
 ·intro c0; refine Se rfl ?_; refine Bt rfl rfl rfl .free rfl ?_; refine Bn rfl rfl rfl rfl .free ?_; refine Oa rfl (Aa ?_); refine Ad (.c rfl (.tmp rfl .nil)) ?_
  exact ⟨I, L, .refl _, fun _ h => h.drop, .node [] [], _, false, rfl, Rep.empty I, rfl, by rw [C7, if_pos (by omega)]⟩
 intro c0; refine Ae (Se rfl (Om rfl ?_)); refine Ca rfl (Zy 61 s (by omega) 0 (by omega) 0 rfl _ _) ?_; rintro _ J _ hleJ ⟨t, cs, e, rfl, hrep, rfl, hpf⟩; obtain ⟨oa, cc, vs, rfl, -⟩ := hrep.open; refine Om rfl (Oe rfl rfl (Oe rfl rfl ?_)); refine Aw .free rfl ?_; intro b4; refine Bn rfl rfl rfl rfl .free ?_; refine Oa rfl (Aa (Se rfl ?_)); refine Cr rfl .free rfl ?_; refine Om rfl (Om rfl ?_); refine Cn rfl .free rfl ?_; refine Oc rfl rfl rfl ?_; refine Bn rfl rfl rfl rfl .free ?_; refine Oa rfl (Aa ?_); refine Ad (.c rfl (.tmp rfl .nil)) ?_
 refine ⟨J, L, hleJ, fun _ h => h.drop.drop, t, _, _, rfl, hrep, rfl, ?_⟩; rw [C7, if_neg (by omega)]
 simp only [Hc, List.drop_zero] at hpf
 cases hp : Ea 60 s with
 | none =>
  rw [hp] at hpf
  simp only at hpf ⊢
  exact decide_eq_false (by omega)
 | some p =>
  obtain ⟨t0, r0⟩ := p
  have hsf := (Mx hp).length_le
  have hlt := Ro hp
  rw [hp] at hpf; obtain ⟨rfl, rfl⟩ := hpf
  cases r0 with
  | nil => exact ⟨decide_eq_true (by simp), rfl⟩
  | cons c r0 =>
   simp only [List.length_cons] at hlt hsf ⊢
   exact decide_eq_false (by omega)
theorem Re (s : Ap) (hs : s.length ≤ Az) (I : Heap) (L : Bh) : Fun Tryz.prog 65 [.string (str s)] I L (RD (C7 s) L) := Gs s (Jq hs) I L
def H0 (s : Ap) : Option Tree := match C7 s with
 | some t => bif t.typed then some t else none
 | none => none
section rules
variable {P : Program} {f : FuncId} {n : Nat} {I₀ : Heap} {Q : Cs} {k : List Item} {E : Gm} {I : Heap} {L : Bh}
variable {ops : Array Oper} {d : Nat} {ty : TypeId} {pos : String} {af : Array Edge} {g : Option (Nat × Bool)} {l : List Oper}

theorem Jb {c : Code} {rs : List ResultVar} {vs : List Value} {m : Nat} [hf : Bo P f c m rs] (hr : RetOk P E I L rs vs)
  (hp : ∃ I' L', HLe I₀ I' ∧ (∀ w, Mem I L w → Mem I' L' w) ∧ Q (C2 vs) I' L') : RunS P f n I₀ Q [] E I L := by
 obtain ⟨fn, hfn, _, _, hrs, _⟩ := hf.get; intro a w ha hd he hm cs; obtain ⟨I', L', hle, hmm, hq⟩ := hp; refine ⟨.returned (C2 vs), w, _, ⟨_, I', L', rfl, hle, hmm w hm, hq⟩, .one step_end, rfl, rfl, hd, rfl, fn, hfn, ?_⟩
 have h1 := Aa0 hr he hm
 have h2 : (fn.results.mapM (fun | .tmp t => pure (a.tmps.getD t undef) | .cell b t => do loadVar t (← asAddr (a.tmps.getD b undef)) : ResultVar → Sem Value)).run P w = .ok vs.toArray w := by
  rw [hrs, List.mapM_toArray]
  exact Ac h1
 unfold results
 rw [show ((base f).at a []).tmps = a.tmps from rfl]; refine Eq.trans (Ac h2) ?_
 cases vs with
 | nil => rfl
 | cons v vs =>
  cases vs with
  | nil => rfl
  | cons u us => simp [C2, Fy]

theorem Dn {S : World → Prop} {x : Operand} {a : Addr} (hx : A7 E x = some (.pointer (some a))) : Gn P E S ⟨some d, .nilCheck x, ty, pos, af, g⟩ (.pointer (some a)) := fun ac w he _ => by
 simp only [execOp, he.eval hx]; rfl
theorem Av {x : Operand} {a : Addr} (hx : A7 E x = some (.pointer (some a))) (hg : Wants ops E g) (hdn : Nat.blt d n = true) (h : A4 P f n I₀ Q ops l k ((d, .pointer (some a)) :: E) I L) :
  A4 P f n I₀ Q ops (⟨some d, .nilCheck x, ty, pos, af, g⟩ :: l) k E I L := Dr (Dn hx) hg hdn h

theorem Gp {op : BinOp} {T : TypeId} {x y : Operand} {a b : Option Addr} (w : World) : (eqGuard op T x y (.pointer a) (.pointer b)).run P w = .ok () w := by
 unfold eqGuard; split <;> rfl
theorem Aa9 {S : World → Prop} {T T' e sz bb : Nat} {z : List Value} [ht : Aq P T (.pointer e) sz bb z] {x y : Operand} {oa : Option Addr} (hx : A7 E x = some (.pointer oa)) (hy : A7 E y = some (.pointer none)) :
  Gn P E S ⟨some d, .binOp .eql T x y T', ty, pos, af, g⟩ (.bool oa.isNone) := fun ac w he _ => by
 simp only [execOp, he.eval hx, he.eval hy]
 refine Ac (a := _) (w' := w) ?_ |>.trans rfl
 rw [Ac (Gp w)]
 have h : ∀ d : Nat, (Op.equalIn (d + 1) T (.pointer oa) (.pointer none)).run P w = .ok oa.isNone w := fun d => by
  unfold Op.equalIn
  rw [Ac (A8 ht.und w)]
  cases oa <;> rfl
 simp only [binOp, Op.equal]
 exact Ac (h 9999) |>.trans rfl
theorem Uz {T T' e sz bb : Nat} {z : List Value} [ht : Aq P T (.pointer e) sz bb z] {x y : Operand} {oa : Option Addr} (hx : A7 E x = some (.pointer oa)) (hy : A7 E y = some (.pointer none)) (hg : Wants ops E g) (hdn : Nat.blt d n = true)
  (h : A4 P f n I₀ Q ops l k ((d, .bool oa.isNone) :: E) I L) : A4 P f n I₀ Q ops (⟨some d, .binOp .eql T x y T', ty, pos, af, g⟩ :: l) k E I L := Dr (Aa9 hx hy) hg hdn h
theorem Ys {T T' e sz bb esz ebb : Nat} {z ez : List Value} {dd : TypeDesc} [ht : Aq P T (.pointer e) sz bb z] [hte : Aq P e dd esz ebb ez] {x y : Operand} {a : Addr} (hx : A7 E x = some (.pointer (some a))) (hy : A7 E y = some (.pointer (some a))) (hg : Wants ops E g) (hdn : Nat.blt d n = true)
  (h : A4 P f n I₀ Q ops l k ((d, .bool false) :: E) I L) : A4 P f n I₀ Q ops (⟨some d, .binOp .neq T x y T', ty, pos, af, g⟩ :: l) k E I L :=
 Aau (fun ac w he => by
  simp only [execOp, he.eval hx, he.eval hy]
  refine Ac (a := _) (w' := w) ?_ |>.trans rfl
  rw [Ac (Gp w)]; obtain ⟨i, z, hi, _⟩ := hte.info
  exact Lib.run_neq_ptr_same w a ht.und hi) hg hdn h

theorem Nz {b : Nat} {c : Array Value} {T : TypeId} {fr : Nat × Nat} {w : World} (hm : (b, Obj.cells c T fr) ∈ L) (hw : Mem I L w) : w.shape? b = some (T, c.size) := by
 simp [World.shape?, (hw.2.1 _ hm).1]
theorem Wq {src dst t sz bb sz2 bb2 tsz tbb : Nat} {z z2 tz : List Value} {dd : TypeDesc} [hs : Aq P src (.pointer t) sz bb z] [hd : Aq P dst .unsafePointer sz2 bb2 z2] [ht : Aq P t dd tsz tbb tz] {x : Operand} {b off : Nat} {cs : List Value} {U : TypeId} {fr : Nat × Nat}
  (hx : A7 E x = some (.pointer (some ⟨b, off, none⟩))) (hm : (b, Obj.cells cs.toArray U fr) ∈ L) (ht0 : tsz ≠ 0) (ho : off < cs.length) (hg : Wants ops E g) (hdn : Nat.blt d n = true)
  (h : A4 P f n I₀ Q ops l k ((d, .pointer (some ⟨b, off, none⟩)) :: E) I L) : A4 P f n I₀ Q ops (⟨some d, .convert src dst x, ty, pos, af, g⟩ :: l) k E I L :=
 Dr (fun ac w he hw => by
  obtain ⟨i, z, hi, hsz, _⟩ := ht.info
  simp only [execOp, he.eval hx]
  exact Ac (Lib.run_to_unsafe w ⟨b, off, none⟩ hs.und hd.und hi (by omega) (Nz hm hw) (by simpa using ho)) |>.trans rfl) hg hdn h
theorem S4 {src dst u sz bb sz2 bb2 usz ubb : Nat} {z z2 uz : List Value} {dd : TypeDesc} [hs : Aq P src .unsafePointer sz bb z] [hd : Aq P dst (.pointer u) sz2 bb2 z2] [hu : Aq P u dd usz ubb uz] {x : Operand} {b off : Nat} {cs : List Value} {U : TypeId} {fr : Nat × Nat}
  (hx : A7 E x = some (.pointer (some ⟨b, off, none⟩))) (hm : (b, Obj.cells cs.toArray U fr) ∈ L) (hl : liesAt P P.depth U (cs.length / P.cellsOf U) off u 1 = true) (hg : Wants ops E g) (hdn : Nat.blt d n = true)
  (h : A4 P f n I₀ Q ops l k ((d, .pointer (some ⟨b, off, none⟩)) :: E) I L) : A4 P f n I₀ Q ops (⟨some d, .convert src dst x, ty, pos, af, g⟩ :: l) k E I L :=
 Dr (fun ac w he hw => by
  obtain ⟨i, z, hi, _⟩ := hu.info
  simp only [execOp, he.eval hx]
  exact Ac (Lib.run_from_unsafe w ⟨b, off, none⟩ hs.und hd.und hi (Nz hm hw) (by simpa using hl)) |>.trans rfl) hg hdn h

theorem Aar {kf : FuncId} {args : Array Operand} {tys : Array TypeId} {vs : List Value} {v : Value} {fn : Func} {e : Array Value → Sem Value} (hf : P.funcs[kf]? = some fn) (hb : fn.body = none) (hne : (fn.name == "runtime.NumGoroutine") = false)
  (h1 : (Extern.findNext fn).isNone = true) (h2 : Extern.find fn = some e) (hv : ∀ w, (e vs.toArray).run P w = .ok v w)
  (ha : G9 E args.toList = some vs) (hg : Wants ops E g) (hdn : Nat.blt d n = true) (h : A4 P f n I₀ Q ops l k ((d, v) :: E) I L) :
  A4 P f n I₀ Q ops (⟨some d, .call ⟨.value (.func kf), args, tys⟩, ty, pos, af, g⟩ :: l) k E I L :=
 Aau (fun a w he => by
  have h3 : args.map a.eval = vs.toArray := Array.ext' (by simpa using he.evals ha)
  simp only [execOp, resolve, h3]
  simp only [Act.eval, Deferred.ofValue, pure_bind, invoke]
  unfold callFunc
  rw [Ac (a := P) (w' := w) rfl]
  have h1' : Extern.findNext fn = none := by simpa using h1
  simp only [hf, hne, hb, Option.isNone_none, if_true, if_false, Bool.false_eq_true, h1', h2]
  rw [Ac (a := ()) (w' := w) rfl]
  have := hv w
  simp only [Array.append_empty, Array.empty_append]
  exact Ac this |>.trans rfl) hg hdn h

theorem K4 {T e T2 : TypeId} {sz bb esz ebb : Nat} {z ez : List Value} {dd dd2 : TypeDesc} (ht : Aq P T (.slice e) sz bb z) (hte : Aq P e dd esz ebb ez) {base : Option Addr} {m c : Nat} {x : Value} (hu2 : P.underlying T2 = some dd2) (hni : ∀ kk, dd2 ≠ .int kk)
  (hmc : m ≤ c) {w : World} (hxl : (Builtin.lenOf x).run P w = .ok 0 w) (hxf : (Builtin.firstCells esz 0 x).run P w = .ok #[] w) :
  (Builtin.append_ #[T, T2] T #[.slice base m c, x]).run P w = .ok (.slice base m c) w := by
 unfold Builtin.append_
 simp only [List.getElem?_toArray, List.getElem?_cons_zero, List.getElem?_cons_succ]
 rw [Ac (A8 ht.und w)]
 simp only []
 rw [Ac (Ez hte w)]; rw [Ac (A8 hu2 w)]
 have hz : (match dd2 with | .int _ => true | _ => false) = false := by
  cases dd2 <;> first | rfl | exact absurd rfl (hni _)
 simp only [hz, pure_bind, Bool.false_eq_true, if_false, Bool.not_false, if_true]
 rw [Ac hxl]
 simp only [Nat.add_zero, if_pos hmc]
 rw [Ac hxf]
 cases base <;> rfl

def bv (b : UInt8) : Value := .int .u8 (b.toNat : Nat)
theorem M1 {s : List UInt8} {w : World} : (Builtin.firstCells 1 s.length (.string (str s))).run P w = .ok (s.map bv).toArray w := by
 simp only [Builtin.firstCells, Fy]
 congr 1
 apply Array.ext'
 simp [str, ByteArray.data_extract, bv]
theorem Qi {s : List UInt8} {w : World} : (Builtin.lenOf (.string (str s))).run P w = .ok s.length w := by
 simp [Builtin.lenOf, Fy, str, ByteArray.size]
theorem Zf (s : List UInt8) : (s.map bv).all Cj = true := by simp [bv, Cj]

theorem Ux {T T2 e : TypeId} {sz bb ebb sz2 bb2 : Nat} {z ez z2 : List Value} {dd : TypeDesc} [ht : Aq P T (.slice e) sz bb z] [hte : Aq P e dd 1 ebb ez] [ht2 : Aq P T2 .string sz2 bb2 z2]
  {x y : Operand} {B : Ju} {xs : List Value} {s : List UInt8} {m c : Nat} {L₀ : Bh} (hez : ez.length = 1)
  (hx : A7 E x = some (B8 m c B)) (hy : A7 E y = some (.string (str s))) (hB : Er 1 m c xs B) (hL : ∀ w, Mem I L w → Mem I (Cf e xs B ++ L₀) w)
  (hsize : (m + s.length) ≤ 4294967296) (hbytes : ebb ≤ 1024) (hg : Wants ops E g) (hdn : Nat.blt d n = true)
  (h : ∀ B' c', Er 1 (m + s.length) c' (xs ++ s.map bv) B' → (s ≠ [] → B' ≠ none) → (s = [] → B' = B) → A4 P f n I₀ Q ops l k ((d, B8 (m + s.length) c' B') :: E) I (Cf e (xs ++ s.map bv) B' ++ L₀)) :
  A4 P f n I₀ Q ops (⟨some d, .call ⟨.builtin .append, #[x, y], #[T, T2]⟩, T, pos, af, g⟩ :: l) k E I L := by
 refine Ia rfl hdn (fun a he => hg.wanted a he) fun a w he hm => ?_
 by_cases hs : s = []
 ·subst hs
  have hv : ∃ base cc, B8 m c B = .slice base m cc ∧ m ≤ cc ∧ cc = c := by
   cases B with
   | none => obtain ⟨h1, h2, h3⟩ := hB; exact ⟨none, 0, by simp [B8, h2], by omega, h3.symm⟩
   | some p => exact ⟨_, c, rfl, hB.2.1, rfl⟩
  obtain ⟨base, cc, hbv, hmc, rfl⟩ := hv
  have := K4 (P := P) (T2 := T2) (base := base) (x := .string (str [])) (w := w) ht hte ht2.und (by intro kk; simp) hmc Qi M1
  refine ⟨_, w, I, _, ?_, hL w hm, by simpa using h B cc (by simpa using hB) (by simp) (fun _ => rfl)⟩
  simp only [execOp, resolve, List.map_toArray, List.map, he.eval hx, he.eval hy, pure_bind, invoke, builtin, hbv]
  exact Ac this |>.trans rfl
 ·have hpos := List.length_pos_iff.2 hs
  obtain ⟨w', B', c', hr, hne, hB', hm'⟩ := Md (x := .string (str s)) (m2 := s.length) (ys := s.map bv) ht hte hez ht2.und (by intro kk; simp) hB (hL w hm) (by simp) (fun _ => Qi) (fun w hw => M1) (Zf s) hpos (by decide) hsize hbytes; refine ⟨_, w', I, _, ?_, hm', h B' c' hB' (fun _ => hne) (fun hh => absurd hh hs)⟩
  simp only [execOp, resolve, List.map_toArray, List.map, he.eval hx, he.eval hy, pure_bind, invoke, builtin]
  exact Ac hr |>.trans rfl

theorem Mem.frozen {b m : Nat} {o : Obj} {w : World} (h : Mem I ((b, o) :: L) w) : Mem I L (w.freeze ⟨b, 0, none⟩ m) := by
 obtain ⟨h1, h2, h3⟩ := h
 have hb := h2 (b, o) (.head _)
 have hn : b ∉ L.map (·.1) ∧ (L.map (·.1)).Nodup := List.nodup_cons.1 h3
 unfold World.freeze
 split
 ·exact ⟨h1, fun p hp => h2 p (.tail _ hp), hn.2⟩
 ·refine ⟨⟨fun c u hc => ?_, h1.2⟩, fun p hp => ⟨?_, (h2 p (.tail _ hp)).2⟩, hn.2⟩
  ·have hne : b ≠ c := fun e => by subst e; rw [hb.2] at hc; cases hc
   simp only [Array.getElem?_modify, if_neg hne]
   exact h1.1 c u hc
  ·have hne : b ≠ p.1 := fun e => hn.1 (e ▸ List.mem_map.2 ⟨p, hp, rfl⟩)
   simp only [Array.getElem?_modify, if_neg hne]
   exact (h2 p (.tail _ hp)).1


theorem Vu {S : World → Prop} {x : Operand} {a : Addr} {m c : Nat} {tys : Array TypeId} (hx : A7 E x = some (.slice (some a) m c)) (hc : c ≠ 0) :
  Gn P E S ⟨some d, .call ⟨.builtin .unsafeSliceData, #[x], tys⟩, ty, pos, af, g⟩ (.pointer (some a)) := fun ac w he _ => by
 simp only [execOp, resolve, List.map_toArray, List.map, he.eval hx, pure_bind, invoke, builtin]
 exact Ac (Lib.run_unsafeSliceData_row w _ _ _ _ _ hc) |>.trans rfl
theorem Tq {S : World → Prop} {x : Operand} {m c : Nat} {tys : Array TypeId} (hx : A7 E x = some (.slice none m c)) :
  Gn P E S ⟨some d, .call ⟨.builtin .unsafeSliceData, #[x], tys⟩, ty, pos, af, g⟩ (.pointer none) := fun ac w he _ => by
 simp only [execOp, resolve, List.map_toArray, List.map, he.eval hx, pure_bind, invoke, builtin]
 exact Ac (Lib.run_unsafeSliceData_nil w _ _ _ _) |>.trans rfl
theorem O9 {S : World → Prop} {x y : Operand} {pt it : TypeId} {oa : Option Addr} (hx : A7 E x = some (.pointer oa)) (hy : A7 E y = some (.int .i64 0)) :
  Gn P E S ⟨some d, .call ⟨.builtin .unsafeString, #[x, y], #[pt, it]⟩, ty, pos, af, g⟩ (.string (str [])) := fun ac w he _ => by
 simp only [execOp, resolve, List.map_toArray, List.map, he.eval hx, he.eval hy, pure_bind, invoke, builtin]
 exact Ac (Lib.run_unsafeString_none w _ _ _ _) |>.trans rfl
theorem Pp {S : World → Prop} {fuel : Nat} {listed listed' : Array Bool} (i : Nat) {x y : Operand} {pt it e sz bb : Nat} {z : List Value} [ht : Aq P pt (.pointer e) sz bb z] {b : Nat} {xs : List UInt8} {sp : List Value} {fr : Nat × Nat} {L₀ : Bh}
  (hi : ops[i]? = some ⟨some d, .call ⟨.builtin .unsafeString, #[x, y], #[pt, it]⟩, ty, pos, af, g⟩) (hc : decide (Region.ready .any ops listed = [i]) = true) (hl : listed' = listed.setIfInBounds i true)
  (hx : A7 E x = some (.pointer (some ⟨b, 0, none⟩))) (hy : A7 E y = some (.int .i64 (xs.length : Nat))) (he1 : P.cellsOf e = 1) (h0 : xs ≠ []) (hlen : xs.length ≤ 4294967296)
  (hL : ∀ w, Mem I L w → Mem I ((b, .cells (xs.map bv ++ sp).toArray e fr) :: L₀) w) (hS : Eu ops listed' = true ∨ ∀ w, Mem I L₀ w → S w) (hg : Wants ops E g) (hdn : Nat.blt d n = true)
  (h : Cq P f n I₀ Q ops S fuel listed' k ((d, .string (str xs)) :: E) I L₀) : Cq P f n I₀ Q ops S (fuel + 1) listed k E I L := by
 refine Mj i hi hc hl rfl hdn (fun a he => hg.wanted a he) fun a w he hm => ?_
 have hm' := hL w hm
 have hb := (hm'.2.1 _ (.head _)).1
 refine ⟨_, _, I, L₀, ?_, hm'.frozen (m := xs.length), hS, h⟩
 simp only [execOp, resolve, List.map_toArray, List.map, he.eval hx, he.eval hy, pure_bind, invoke, builtin]
 refine Ac (Lib.run_unsafeString_row w pt it ty e ht.und he1 b _ (Nz (.head _) hm') xs h0 (by simp) (by omega) ?_) |>.trans rfl
 intro j c hj; rw [Mf hb]
 have hjl : j < xs.length := by
  rcases Nat.lt_or_ge j xs.length with gg | gg
  ·exact gg
  ·simp [List.getElem?_eq_none gg] at hj
 simp only [Nat.zero_add, List.getElem?_toArray]
 rw [List.getElem?_append_left (by simpa using hjl), List.getElem?_map, hj]
 rfl

theorem M6 {m c : Nat} {B : Ju} : Fc (B8 m c B) = some [B8 m c B] := by cases B <;> rfl

end rules
theorem Mem.bl1 {I : Heap} {a p : Nat × Obj} {X L : Bh} {w : World} (h : Mem I (a :: p :: (X ++ L)) w) : Mem I (p :: (X ++ a :: L)) w := h.f1.perm (List.Perm.cons _ (List.perm_append_comm_assoc [a] X L))
theorem Mem.br1 {I : Heap} {a p : Nat × Obj} {X L : Bh} {w : World} (h : Mem I (p :: (X ++ a :: L)) w) : Mem I (a :: p :: (X ++ L)) w :=
 (h.perm (List.Perm.cons _ (List.perm_append_comm_assoc [a] X L).symm)).f1
def Y3 (xs : Ap) (B : Ju) (c : Nat) : Prop := Er 1 xs.length c (xs.map bv) B ∧ (B = none ∨ xs ≠ [])
def R8 (b : Nat) (pre : Bool) (xs : Ap) (B : Ju) (c : Nat) (L : Bh) : Bh :=
 (b, .cells [.pointer (bif pre then some ⟨b, 0, none⟩ else none), B8 xs.length c B].toArray 69 (0, 0)) :: (Cf 5 (xs.map bv) B ++ L)

theorem F2 (b : Nat) (pre : Bool) (v2 : Value) (I : Heap) (L : Bh) : Fun Tryz.prog 137 [.pointer (some ⟨b, 0, none⟩)] I
  ((b, .cells [.pointer (bif pre then some ⟨b, 0, none⟩ else none), v2].toArray 69 (0, 0)) :: L)
  (fun v I' L' => v = .tuple #[] ∧ I = I' ∧ L' = (b, .cells [.pointer (some ⟨b, 0, none⟩), v2].toArray 69 (0, 0)) :: L) := by
 cases pre with
 | true =>
  refine Ag (by simp) ?_; refine Se rfl (Om rfl ?_); refine Av rfl .free rfl ?_
  first | refine Oh rfl ?_ | refine Oj rfl ?_
  refine Cr rfl .free rfl ?_; refine Uz rfl rfl .free rfl ?_; refine Aa ?_
  first | refine Sf rfl (by simp) ?_ | refine Al (by simp [look, A7, *]) ?_
  refine Se rfl (Om rfl ?_); refine Av rfl .free rfl ?_
  first | refine Oh rfl ?_ | refine Oj rfl ?_
  refine Cr rfl .free rfl ?_; refine Om rfl ?_; refine Ys rfl rfl .free rfl ?_; refine Aa ?_
  first | refine Sf rfl (by simp) ?_ | refine Al (by simp [look, A7, *]) ?_
  refine Ae ?_; refine Jb .nil ?_
  exact ⟨I, _, .refl _, fun _ h => h, rfl, rfl, rfl⟩
 | false =>
  refine Ag (by simp) ?_; refine Se rfl (Om rfl ?_); refine Av rfl .free rfl ?_
  first | refine Oh rfl ?_ | refine Oj rfl ?_
  refine Cr rfl .free rfl ?_; refine Uz rfl rfl .free rfl ?_; refine Aa ?_
  first | refine St rfl (by simp) ?_ | refine Bj (by simp [look, A7, *]) ?_
  refine Af rfl (Om rfl (Om rfl ?_)); refine Wq rfl (.head _) (by decide) (by simp) .free rfl ?_; refine Aar (fn := Tryz.f164) (e := Extern.AbiNoEscape.same) Tryz.func164 (by kernel_rfl) (by kernel_rfl) (by kernel_rfl) (by kernel_rfl) (fun w => Lib.run_noEscape w _) rfl .free rfl ?_; refine S4 rfl (.head _) (by kernel_rfl) .free rfl ?_; refine Av rfl .free rfl ?_
  first | refine Oh rfl ?_ | refine Oj rfl ?_
  refine Bn rfl rfl rfl rfl .free ?_; refine Aa ?_; refine Jb .nil ?_
  exact ⟨I, _, .refl _, fun _ h => h, rfl, rfl, rfl⟩

theorem Cw (b : Nat) (pre : Bool) (xs : Ap) (B : Ju) (c : Nat) (s : Ap) (hB : Y3 xs B c) (hs : xs.length + s.length ≤ Az) (I : Heap) (L : Bh) :
  Fun Tryz.prog 97 [.pointer (some ⟨b, 0, none⟩), .string (str s)] I (R8 b pre xs B c L)
  (fun v I' L' => v = .tuple #[.int .i64 (s.length : Nat), .nilIface] ∧ I = I' ∧ ∃ B' c', Y3 (xs ++ s) B' c' ∧ L' = R8 b true (xs ++ s) B' c' L) := by
 unfold Az at hs
 refine Ag (by simp) ?_; refine Se rfl (Oa rfl (Oa rfl (Aa (Se rfl (Om rfl ?_))))); refine Ca rfl (F2 b pre _ _ _) ?_; rintro _ _ _ _ ⟨rfl, rfl, rfl⟩; refine Aa (Se rfl (Om rfl (Om rfl ?_))); refine Av rfl .free rfl ?_
 first | refine Oh rfl ?_ | refine Oj rfl ?_
 refine Cr rfl .free rfl ?_; refine Om rfl ?_; refine Ux (B := B) (xs := xs.map bv) (s := s) (m := xs.length) (c := c) (by rfl) rfl rfl hB.1 (fun _ h => h.u1) (by omega) (by decide) .free rfl ?_; intro B' c' hB' hne hsame; refine D4 (fun w h => h.perm (List.perm_middle (l₁ := Cf _ _ B'))) ?_; refine Av rfl .free rfl ?_
 first | refine Oh rfl ?_ | refine Oj rfl ?_
 refine S9 rfl rfl M6 rfl (by first | rfl | (simp only [List.toList_toArray, List.all_cons, List.all_nil, Gk, Bool.and_true, Bool.true_and] <;> rfl)) (by first | exact u0 | exact u1 | exact u2 | exact u3 | exact u4 | exact u5 | exact u6) (by rfl) .free ?_; refine Aa (Se rfl (Om rfl ?_)); refine Cn rfl .free rfl ?_; refine Oa rfl (Oa rfl (Aa ?_)); refine Ad (.tmp rfl (.tmp rfl .nil)) ?_; refine ⟨I, _, .refl _, fun _ h => h, rfl, rfl, B', c', ⟨by simpa using hB', ?_⟩, by simp [R8]⟩
 by_cases hs0 : s = []
 ·subst hs0; rw [hsame rfl]; simpa using hB.2
 ·exact .inr (by simp [hs0])
theorem E2 (b : Nat) (pre : Bool) (xs : Ap) (B : Ju) (c : Nat) (u : UInt8) (hB : Y3 xs B c) (hs : xs.length + 1 ≤ Az) (I : Heap) (L : Bh) :
  Fun Tryz.prog 111 [.pointer (some ⟨b, 0, none⟩), .int .u8 (u.toNat : Nat)] I (R8 b pre xs B c L)
  (fun v I' L' => v = .nilIface ∧ I = I' ∧ ∃ B' c', Y3 (xs ++ [u]) B' c' ∧ L' = R8 b true (xs ++ [u]) B' c' L) := by
 unfold Az at hs
 refine Ag (by simp) ?_; refine Se rfl (Oa rfl (Aa (Se rfl (Om rfl ?_)))); refine Ca rfl (F2 b pre _ _ _) ?_; rintro _ _ _ _ ⟨rfl, rfl, rfl⟩; refine Aa (Se rfl (Om rfl (Om rfl ?_))); refine Av rfl .free rfl ?_
 first | refine Oh rfl ?_ | refine Oj rfl ?_
 refine Cr rfl .free rfl ?_; refine Om rfl ?_; refine Ol rfl rfl ?_; intro b13; refine Dw (B := B) (xs := xs.map bv) (ys := [bv u]) (m := xs.length) (c := c) (by intro kk; simp) (by rfl) rfl rfl hB.1 (fun _ h => h.u2) (by rfl) (fun a ha => by cases ha; exact Ce (.head _) (by rfl)) (by simp) (by rfl) (by decide) (by decide) (by omega) (by decide) .free rfl ?_; intro bb sp c' hB'; refine Av rfl .free rfl ?_
 first | refine Oh rfl ?_ | refine Oj rfl ?_
 refine Bn rfl rfl rfl rfl .free ?_; refine Aa (Se rfl (Oa rfl (Aa (Ad (.tmp rfl .nil) ?_)))); refine ⟨I, _, .refl _, fun w h => Mem.sub (L' := (b, _) :: (bb, _) :: L) (by repeat (first | exact List.Sublist.refl _ | apply List.Sublist.cons_cons | apply List.Sublist.cons)) h.f2, rfl, rfl, some (bb, sp), c', ⟨by simpa using hB', .inr (by simp)⟩, by simp [R8, Cf, B8]⟩
theorem Gj (b : Nat) (pre : Bool) (xs : Ap) (B : Ju) (c : Nat) (hB : Y3 xs B c) (hs : xs.length ≤ Az) (I : Heap) (L : Bh) :
  Fun Tryz.prog 53 [.pointer (some ⟨b, 0, none⟩)] I (R8 b pre xs B c L) (D0 (.string (str xs)) I L) := by
 unfold Az at hs
 cases B with
 | none =>
  obtain ⟨⟨h1, h2, h3⟩, _⟩ := hB; obtain rfl : xs = [] := by simpa using h1
  refine Ag (by simp) ?_; refine Se rfl (Oa rfl (Aa (Ab ?_))); refine Dp 12 rfl rfl ?_; refine Da 0 rfl (Ah rfl) ?_; refine Da 1 rfl (Dn rfl) ?_
  first | refine Da 2 rfl (Ai rfl) ?_ | refine Da 2 rfl (Bb rfl) ?_
  refine Dt 3 [12] rfl (N5 rfl) ?_; refine Da 4 rfl (Tq rfl) ?_; refine Da 5 rfl (Ah rfl) ?_; refine Da 6 rfl (Dn rfl) ?_
  first | refine Da 7 rfl (Ai rfl) ?_ | refine Da 7 rfl (Bb rfl) ?_
  refine Dt 8 [12] rfl (N5 rfl) ?_; refine Da 9 rfl (Fq rfl) ?_; refine Da 10 rfl (O9 rfl rfl) ?_; refine Da 11 rfl (A2 rfl) ?_; refine At (by kernel_rfl) ?_; refine Ad (.tmp rfl .nil) ?_; refine only rfl ?_
  simp [C2, *]
 | some p =>
  obtain ⟨bb, sp⟩ := p
  have hne : xs ≠ [] := by rcases hB.2 with h | h <;> simp_all
  have hpos := List.length_pos_iff.2 hne
  have hc := hB.1.2.1
  refine Ag (by simp) ?_; refine Se rfl (Oa rfl (Aa (Ab ?_)))
  simp only [R8, Cf, List.cons_append, List.nil_append]
  refine Sh I ((b, .cells [.pointer (bif pre then some ⟨b, 0, none⟩ else none), B8 xs.length c (some (bb, sp))].toArray 69 (0, 0)) :: L) 12 rfl rfl ?_; refine Da 0 rfl (Ah rfl) ?_; refine Da 1 rfl (Dn rfl) ?_
  first | refine Da 2 rfl (Ai rfl) ?_ | refine Da 2 rfl (Bb rfl) ?_
  refine Dt 3 [12] rfl (N5 rfl) ?_; refine Da 4 rfl (Vu rfl (by omega)) ?_; refine Da 5 rfl (Ah rfl) ?_; refine Da 6 rfl (Dn rfl) ?_
  first | refine Da 7 rfl (Ai rfl) ?_ | refine Da 7 rfl (Bb rfl) ?_
  refine Dt 8 [12] rfl (N5 rfl) ?_; refine Da 9 rfl (Fq rfl) ?_; refine Pp 10 rfl (by kernel_rfl) rfl rfl rfl (by kernel_rfl) hne (by omega) (fun _ h => h.f1) (.inr Ao) .free rfl ?_; refine Da 11 rfl (A2 rfl) ?_; refine At (by kernel_rfl) ?_; refine Ad (.tmp rfl .nil) ?_; refine only rfl ?_
  simp [C2, *]
structure WS where
 i : Nat
 pre : Bool
 B : Ju
 c : Nat
theorem Rm (ps : List Tree) (i : Nat) : (Gg (ps.take i)).length ≤ (Gg ps).length := by
 rcases Nat.le_total ps.length i with h | h
 ·rw [List.take_of_length_le h]; exact Nat.le_refl _
 ·cases ps with
  | nil => simp
  | cons t ts =>
   cases i with
   | zero => simp [Gg]
   | succ i =>
    have := Kn (ts.take i) (ts.drop i)
    rw [List.take_append_drop] at this
    simp [Gg, this]
theorem Ss : ∀ (n : Nat) {I : Heap} {t : Tree} {cs : List Value} (_ : SizeOf.sizeOf t < n) (_ : Rep I t cs) (b : Nat) (pre : Bool) (xs : Ap) (B : Ju) (c : Nat) (_ : Y3 xs B c) (_ : xs.length + t.text.length ≤ Az) (L : Bh),
  Fun Tryz.prog 64 [.agg cs.toArray, .pointer (some ⟨b, 0, none⟩)] I (R8 b pre xs B c L)
  (fun v I' L' => v = .tuple #[] ∧ I = I' ∧ ∃ B' c', Y3 (xs ++ t.text) B' c' ∧ L' = R8 b true (xs ++ t.text) B' c' L) := by
 intro n
 induction n with
 | zero => intro I t cs h; omega
 | succ n ihn =>
  intro I t cs hlt h b pre xs B c hB hz L; obtain ⟨oa, cc, vs, rfl, hl, hs, hn, hc, ha, hp⟩ := h.open
  unfold Az at hp
  refine Ag (by simp) ?_; refine Se rfl ?_; refine B7 rfl rfl .free rfl ?_; intro b2; refine Aa (Ab (Se rfl ?_)); refine Cr rfl .free rfl ?_; refine Ca rfl (Bu h _) ?_; rintro _ _ _ _ ⟨rfl, rfl, rfl⟩; refine Aa ?_; refine Si rfl ?_ ?_
  ·intro c0
   have hta := t.text_atom (by simpa using c0)
   refine Se rfl (Om rfl ?_)
   first | refine Oh rfl ?_ | refine Oj rfl ?_
   refine Cr rfl .free rfl ?_; refine D4 (fun w h => Mem.bl1 h) ?_; refine Ca rfl (Cw b pre xs B c t.atom hB (by rw [← hta]; exact hz) _ _) ?_; rintro _ _ _ _ ⟨rfl, rfl, B1, c1, hB1, rfl⟩; refine Aa ?_; refine Ad .nil ?_
   exact ⟨I, _, .refl _, fun w h => (Mem.br1 h).drop, rfl, rfl, B1, c1, by rw [hta]; exact hB1, by rw [hta]; rfl⟩
  intro c0
  have hne : t.parts ≠ [] := by simpa using c0
  have htx := t.text_eq hne
  have hz' := hz
  rw [htx] at hz'
  simp only [List.length_append, List.length_cons, List.length_nil] at hz'
  refine Ae (Ab (Se rfl ?_))
  first | refine Oh rfl ?_ | refine Oj rfl ?_
  refine Cr rfl .free rfl ?_; refine On rfl (Om rfl (Aa (Aj ?_))); refine Dv (X := WS) (fun x => t.parts.length - x.i) (fun x => [(1, .pointer (some ⟨b, 0, none⟩)), (13, .slice oa t.parts.length cc), (14, .int .i64 (t.parts.length : Nat)), (15, .int .i64 (x.i : Nat))]) (fun _ => I) (fun x => R8 b x.pre (xs ++ Gg (t.parts.take x.i)) x.B x.c L)
   (fun x => x.i ≤ t.parts.length ∧ Y3 (xs ++ Gg (t.parts.take x.i)) x.B x.c ∧ (x.i = t.parts.length → x.pre = true)) ⟨0, pre, B, c⟩ ⟨by simp, by simpa [Gg] using hB, fun hh => by simp only at hh; exact absurd (List.length_eq_zero_iff.1 hh.symm) hne⟩ ⟨rfl, rfl, rfl, rfl, trivial⟩ (fun w hh => by simpa [Gg] using hh.drop) ?_
  rintro x ⟨hi, hxB, hxp⟩ ih; refine Se rfl (Oc rfl rfl rfl (Aa (Ab ?_))); refine Si rfl ?_ ?_
  ·intro c1; obtain ⟨x', hx, oa', c', hr, hst⟩ := Rep.at hl hs hn x.i (by omega)
   have htk := Qc t.parts x.i (by omega)
   have hlk := Rm t.parts (x.i + 1)
   rw [htk] at hlk
   simp only [List.length_append, List.length_cons] at hlk
   refine Ae (Ab (Aj (Se rfl (Om rfl ?_)))); refine Cm rfl rfl _ rfl (by first | omega | exact Cb (by assumption) (by decide) | (simp; done) | (simp; omega) | decide | (simp at *; omega)) (by first | rfl | assumption) .free rfl ?_; refine Cr rfl .free rfl ?_; refine Aw .free rfl ?_; intro b5; refine Oa rfl ?_; refine Bn rfl rfl rfl rfl .free ?_; refine Aa (Ab (Se rfl (Om rfl (Oc rfl rfl rfl (Aa ?_))))); refine Si rfl ?_ ?_
   ·intro c2; refine Af rfl (Om rfl ?_); refine D4 (fun w h => Mem.bl1 h) ?_; refine Ca rfl (E2 b x.pre _ x.B x.c 40 hxB (by rw [List.length_append]; unfold Az at *; omega) _ _) ?_; rintro _ _ _ _ ⟨rfl, rfl, B1, c1, hB1, rfl⟩
    have e : xs ++ Gg (t.parts.take (x.i + 1)) = xs ++ Gg (t.parts.take x.i) ++ [40] ++ t.parts[x.i].text := by rw [htk, if_pos (by omega)]; simp
    refine D4 (fun w h => Mem.br1 h) ?_; refine Aa (Af rfl ?_); refine Cr rfl .free rfl ?_; refine Om rfl ?_; refine D4 (fun w h => Mem.bl1 h) ?_; refine Ca rfl (ihn (by have := t.part_lt x.i (by omega); omega) hr b true _ B1 c1 hB1 (by simp only [List.length_append, List.length_cons, List.length_nil]; unfold Az at *; omega) _) ?_; rintro _ _ _ _ ⟨rfl, rfl, B2, c2', hB2, rfl⟩; refine D4 (fun w h => (Mem.br1 h).drop) ?_; refine Aa (Ak (Af rfl ?_)); refine Or rfl rfl rfl ?_; refine Om rfl (Aa ?_)
    refine Bg (fun w hh => ?_) (Bp (E' := [(1, .pointer (some ⟨b, 0, none⟩)), (13, .slice oa t.parts.length cc), (14, .int .i64 (t.parts.length : Nat)), (15, .int .i64 ((x.i + 1 : Nat)))]) ⟨rfl, rfl, rfl, rfl, trivial⟩ (ih ⟨x.i + 1, true, B2, c2'⟩ ⟨by simp only; omega, by simp only; rw [e]; exact hB2, fun _ => rfl⟩ (by simp only; omega)))
    simp only; rw [e]; exact hh
   intro c2; refine Af rfl (Om rfl ?_); refine D4 (fun w h => Mem.bl1 h) ?_; refine Ca rfl (E2 b x.pre _ x.B x.c 32 hxB (by rw [List.length_append]; unfold Az at *; omega) _ _) ?_; rintro _ _ _ _ ⟨rfl, rfl, B1, c1, hB1, rfl⟩
   have e : xs ++ Gg (t.parts.take (x.i + 1)) = xs ++ Gg (t.parts.take x.i) ++ [32] ++ t.parts[x.i].text := by rw [htk, if_neg (by omega)]; simp
   refine D4 (fun w h => Mem.br1 h) ?_; refine Aa (Af rfl ?_); refine Cr rfl .free rfl ?_; refine Om rfl ?_; refine D4 (fun w h => Mem.bl1 h) ?_; refine Ca rfl (ihn (by have := t.part_lt x.i (by omega); omega) hr b true _ B1 c1 hB1 (by simp only [List.length_append, List.length_cons, List.length_nil]; unfold Az at *; omega) _) ?_; rintro _ _ _ _ ⟨rfl, rfl, B2, c2', hB2, rfl⟩; refine D4 (fun w h => (Mem.br1 h).drop) ?_; refine Aa (Ak (Af rfl ?_)); refine Or rfl rfl rfl ?_; refine Om rfl (Aa ?_)
   refine Bg (fun w hh => ?_) (Bp (E' := [(1, .pointer (some ⟨b, 0, none⟩)), (13, .slice oa t.parts.length cc), (14, .int .i64 (t.parts.length : Nat)), (15, .int .i64 ((x.i + 1 : Nat)))]) ⟨rfl, rfl, rfl, rfl, trivial⟩ (ih ⟨x.i + 1, true, B2, c2'⟩ ⟨by simp only; omega, by simp only; rw [e]; exact hB2, fun _ => rfl⟩ (by simp only; omega)))
   simp only; rw [e]; exact hh
  intro c1
  have hxi : x.i = t.parts.length := by omega
  rw [hxi, List.take_length] at hxB; refine Bz rfl ?_; rw [hxi, List.take_length]; refine Af rfl (Om rfl ?_); refine Ca rfl (E2 b x.pre _ x.B x.c 41 hxB (by rw [List.length_append]; unfold Az at *; omega) _ _) ?_; rintro _ _ _ _ ⟨rfl, rfl, B1, c1, hB1, rfl⟩; refine Aa ?_; refine Jb .nil ?_; refine ⟨I, _, .refl _, fun w h => h, rfl, rfl, B1, c1, ?_, ?_⟩
  ·rw [htx, ← List.append_assoc]; exact hB1
  ·rw [htx, ← List.append_assoc]

theorem Oq {I : Heap} {t : Tree} {cs : List Value} (h : Rep I t cs) (hz : t.text.length ≤ Az) (L : Bh) : Fun Tryz.prog 33 [.agg cs.toArray] I L (D0 (.string (str t.text)) I L) := by
 obtain ⟨oa, c, vs, rfl, hl, hs, hn, hc, ha, hp⟩ := h.open; refine Ag (by simp) ?_; refine Se rfl ?_; refine B7 rfl rfl .free rfl ?_; intro b1; refine Oa rfl (Aa (Se rfl ?_)); refine Aw .free rfl ?_; intro b3; refine Aa (Se rfl ?_); refine Cr rfl .free rfl ?_; refine D4 (fun w hh => Mem.f1 hh) ?_; refine D4 (L' := R8 b3 false [] none 0 _) (fun w hh => Mem.f1 hh) ?_; refine Ca rfl (Ss _ (Nat.lt_succ_self _) h b3 false [] none 0 ⟨⟨rfl, rfl, rfl⟩, .inl rfl⟩ (by simpa using hz) _) ?_; rintro _ _ _ _ ⟨rfl, rfl, B1, c1, hB1, rfl⟩; refine Aa (Se rfl ?_)
 refine Ca rfl (Gj b3 true _ B1 c1 hB1 (by simpa using hz) _ _) ?_; rintro _ _ _ _ ⟨rfl, rfl, rfl⟩; refine Oa rfl (Aa (Ad (.tmp rfl .nil) ?_)); refine only rfl ?_
 simp [C2, *]
def sv (s : Ap) : Value := .string (str s)
structure Strs (I : Heap) (oa : Option Addr) (l : List Ap) (c : Nat) : Prop where
 still : ∀ x, oa = some x → Still I x (l.map sv)
 nil : oa = none → l = []
 cap : l.length ≤ c
 len : l.length ≤ Az
 each : ∀ s ∈ l, s.length ≤ Az
theorem Strs.mono {I I' : Heap} {oa : Option Addr} {l : List Ap} {c : Nat} (hle : HLe I I') (h : Strs I oa l c) : Strs I' oa l c :=
 ⟨fun x hx => (h.still x hx).mono hle, h.nil, h.cap, h.len, h.each⟩
theorem Strs.at {I : Heap} {oa : Option Addr} {l : List Ap} {c : Nat} (h : Strs I oa l c) (i : Nat) (hi : i < l.length) : ∃ x, oa = some x ∧ Still I (x.add (i * 1)) [.string (str l[i])] := by
 cases oa with
 | none => have := h.nil rfl; subst this; simp at hi
 | some x =>
  refine ⟨x, rfl, (h.still x rfl).part (i * 1) ?_⟩; intro j hj; obtain rfl : j = 0 := by simpa using hj
  simp [hi, sv]

def Gt (l : List Ap) (s : Ap) : Nat → Option Nat
 | 0 => none
 | n + 1 => if l.getD n [] = s then some n else Gt l s n
def C1 (l : List Ap) (s : Ap) : Option Nat := Gt l s l.length
theorem Nn {l : List Ap} {s : Ap} : ∀ {n i : Nat}, Gt l s n = some i → i < n ∧ l.getD i [] = s := by
 intro n
 induction n with
 | zero => intro i h; simp [Gt] at h
 | succ n ih =>
  intro i h
  simp only [Gt] at h
  split at h
  ·simp at h; subst h; exact ⟨by omega, by assumption⟩
  ·have := ih h; exact ⟨by omega, this.2⟩
def Adz : Option Nat → Int
 | some i => i
 | none => -1

def S1 (names types : List Ap) (s : Ap) : Ap := match C1 names s with
 | some i => types.getD i []
 | none => []
theorem Z1 {I : Heap} {oa ob : Option Addr} {l m : List Ap} {c c' : Nat} (h : Strs I oa l c) (h' : Strs I ob m c') (hlm : l.length = m.length) (s : Ap) (L : Bh) :
  Fun Tryz.prog 132 [.slice oa l.length c, .slice ob m.length c', .string (str s)] I L (D0 (.string (str (S1 l m s))) I L) := by
 have hlen := h.len
 unfold Az at hlen
 refine Ag (by simp) ?_; refine Se rfl (Oa rfl (Aa (Ab (Se rfl (Om rfl (On rfl ?_)))))); refine Or rfl rfl rfl ?_; refine Oa rfl (Aa (Aj ?_)); refine Dv (X := Nat) (fun n => n) (fun n => [(0, .slice oa l.length c), (1, .slice ob m.length c'), (2, .string (str s)), (7, .int .i64 ((n : Int) - 1))]) (fun _ => I) (fun _ => L) (fun n => n ≤ l.length ∧ C1 l s = Gt l s n) l.length ⟨Nat.le_refl _, rfl⟩ ⟨rfl, rfl, rfl, rfl, trivial⟩ Bf ?_; rintro n ⟨hn, hl⟩ ih; refine Ab (Se rfl (Om rfl (Oc rfl rfl rfl (Aa ?_)))); refine Si rfl ?_ ?_
 ·intro c0; obtain ⟨k, rfl⟩ : ∃ k, n = k + 1 := ⟨n - 1, by omega⟩; obtain ⟨x, hx, hst⟩ := h.at k (by omega); obtain ⟨y, hy, hst'⟩ := h'.at k (by omega); refine Kp (t := 7) (v' := .int .i64 (k : Nat)) rfl (by congr 1; omega) ?_
  simp only [Gt, List.getD_eq_getElem?_getD, List.getElem?_eq_getElem (show k < l.length by omega), Option.getD_some] at hl
  refine Ae (Ab (Aj (Se rfl (Om rfl (Om rfl ?_))))); refine Cm rfl rfl _ rfl (by first | omega | exact Cb (by assumption) (by decide) | (simp; done) | (simp; omega) | decide | (simp at *; omega)) (by first | rfl | assumption) .free rfl ?_; refine Cr rfl .free rfl ?_; refine Om rfl (Od rfl rfl rfl (Aa ?_)); refine Si rfl ?_ ?_
  ·intro c1; refine Se rfl (Om rfl (Om rfl ?_)); refine Cm rfl rfl _ rfl (by first | omega | exact Cb (by assumption) (by decide) | (simp; done) | (simp; omega) | decide | (simp at *; omega)) (by first | rfl | assumption) .free rfl ?_; refine Cr rfl .free rfl ?_; refine Oa rfl (Aa (Ad (.tmp rfl .nil) ?_)); refine only rfl ?_; rw [if_pos (by assumption)] at hl
   simp only [S1, hl]; simp [C2, show k < m.length by omega]
  intro c1; refine Ae (Ak (Af rfl (Om rfl ?_))); refine Or rfl rfl rfl ?_; refine Oa rfl (Aa ?_); refine Bp (E' := [(0, .slice oa l.length c), (1, .slice ob m.length c'), (2, .string (str s)), (7, .int .i64 ((k : Int) - 1))]) ⟨rfl, rfl, rfl, rfl, trivial⟩ (ih k ⟨by omega, ?_⟩ (by omega)); rw [hl, if_neg (by assumption)]
 intro c0; refine Bz rfl ?_; refine Se rfl (Oa rfl (Aa (Ad (.tmp rfl .nil) ?_))); refine only rfl ?_; obtain rfl : n = 0 := by omega
 simp only [S1, hl, Gt]; rfl

def Xf (names types : List Ap) : Bool := decide (names.length ≤ 8) && decide (names.length = types.length) && names.all Bv && types.all fun s => (H0 s).isSome
structure ES where
 I : Heap
 i : Nat
 ts : List Tree
 B : Ju
 c : Nat
 xs : List Value
structure Ad8 (I : Heap) (l m : List Ap) (x : ES) : Prop where
 hle : HLe I x.I
 hrl : RepL x.I x.ts x.xs
 hB : Er 2 x.i x.c x.xs x.B
 hlen : x.i = x.ts.length
 hi : x.i ≤ m.length
 hts : (m.take x.i).map H0 = x.ts.map some
 hall : (l.take x.i).all Bv = true

def RE (oa : Option Addr) (l m : List Ap) (c : Nat) (L : Bh) : Cs := fun v I' L' => ∃ oa' n c2 ob' ts c3, v = .tuple #[.agg [.slice oa' n c2, .slice ob' (List.length ts) c3].toArray, .bool (Xf l m)] ∧ L = L' ∧
 Rep I' (.node [] ts) [.string (str []), .slice ob' ts.length c3] ∧ (Xf l m = true → oa' = oa ∧ n = l.length ∧ c2 = c ∧ m.map H0 = ts.map some)
def LK (o : Option Nat) (ts : List Tree) (I : Heap) (L : Bh) : Cs := fun v I' L' => ∃ t cs ok, v = .tuple #[.agg cs.toArray, .bool ok] ∧ I = I' ∧ L = L' ∧ Rep I t cs ∧ ok = o.isSome ∧ ∀ i, o = some i → ts[i]? = some t
def Adr (l m : List Ap) (s : Ap) : Option Ap := bif Xf l m then (C1 l s).map fun i => m.getD i [] else none
def EL (o : Option Ap) (L : Bh) : Cs := fun v I' L' => v = .tuple #[.string (str (o.getD [])), .bool o.isSome] ∧ L = L'
section rules
variable {P : Program} {f : FuncId} {n : Nat} {I₀ : Heap} {Q : Cs} {k : List Item} {E : Gm} {I : Heap} {L : Bh}
variable {ops : Array Oper} {d : Nat} {ty : TypeId} {pos : String} {af : Array Edge} {g : Option (Nat × Bool)} {l : List Oper}

theorem Nw {op : BinOp} {T : TypeId} {x y : Operand} {a b : Bool} (w : World) : (eqGuard op T x y (.bool a) (.bool b)).run P w = .ok () w := by
 unfold eqGuard; split <;> rfl
def Sa : BinOp → Bool → Bool → Option Bool
 | .eql, a, b => some (a == b)
 | .neq, a, b => some (!(a == b))
 | _, _, _ => none
theorem Ac7 {S : World → Prop} {op : BinOp} {T T' sz bb : Nat} {z : List Value} [ht : Aq P T .bool sz bb z] {x y : Operand} {a b r : Bool} (hx : A7 E x = some (.bool a)) (hy : A7 E y = some (.bool b)) (hr : Sa op a b = some r) :
  Gn P E S ⟨some d, .binOp op T x y T', ty, pos, af, g⟩ (.bool r) := fun ac w he _ => by
 simp only [execOp, he.eval hx, he.eval hy]
 refine Ac (a := _) (w' := w) ?_ |>.trans rfl
 rw [Ac (Nw w)]
 have h : ∀ d : Nat, (Op.equalIn (d + 1) T (.bool a) (.bool b)).run P w = .ok (a == b) w := fun d => by
  unfold Op.equalIn
  rw [Ac (A8 ht.und w)]
  rfl
 cases op <;> simp only [Sa, Option.some.injEq, reduceCtorEq] at hr
 ·subst hr
  simp only [binOp, Op.equal]
  exact Ac (h 9999) |>.trans rfl
 ·subst hr
  simp only [binOp, Op.equal]
  exact Ac (h 9999) |>.trans rfl
theorem Wm {op : BinOp} {T T' sz bb : Nat} {z : List Value} [ht : Aq P T .bool sz bb z] {x y : Operand} {a b r : Bool} (hx : A7 E x = some (.bool a)) (hy : A7 E y = some (.bool b)) (hr : Sa op a b = some r) (hg : Wants ops E g) (hdn : Nat.blt d n = true)
  (h : A4 P f n I₀ Q ops l k ((d, .bool r) :: E) I L) : A4 P f n I₀ Q ops (⟨some d, .binOp op T x y T', ty, pos, af, g⟩ :: l) k E I L := Dr (Ac7 hx hy hr) hg hdn h

theorem G8 {S : World → Prop} {T e : TypeId} {sz bb esz ebb : Nat} {z ez : List Value} {dd : TypeDesc} [ht : Aq P T (.slice e) sz bb z] [hte : Aq P e dd esz ebb ez] {x y : Operand} {oa : Option Addr} {ad : Addr} {m c : Nat} {i : Int}
  (hx : A7 E x = some (.slice oa m c)) (hy : A7 E y = some (.int .i64 i)) (i' : Nat) (hi : i = i') (him : i' < m) (hoa : oa = some ad) : Gn P E S ⟨some d, .indexAddr T x y, ty, pos, af, g⟩ (.pointer (some (ad.add (i' * esz)))) :=
 O6 (hoa ▸ hx) hy i' hi him

end rules
structure Raw (I : Heap) (oa : Option Addr) (l : List Ap) (c : Nat) : Prop where
 still : ∀ x, oa = some x → Still I x (l.map sv)
 nil : oa = none → l = []
 cap : l.length ≤ c
 len : l.length ≤ 9223372036854775807
 each : ∀ s ∈ l, s.length ≤ 9223372036854775807
theorem Raw.at {I : Heap} {oa : Option Addr} {l : List Ap} {c : Nat} (h : Raw I oa l c) (i : Nat) (hi : i < l.length) : ∃ x, oa = some x ∧ Still I (x.add (i * 1)) [.string (str l[i])] := by
 cases oa with
 | none => have := h.nil rfl; subst this; simp at hi
 | some x =>
  refine ⟨x, rfl, (h.still x rfl).part (i * 1) ?_⟩; intro j hj; obtain rfl : j = 0 := by simpa using hj
  simp [hi, sv]

def SZ (left : Nat) (l : List Ap) (I : Heap) (L : Bh) : Cs := fun v I' L' => ∃ r : Int, v = .int .i64 r ∧ I = I' ∧ L = L' ∧ r ≤ left ∧ (0 ≤ r → l.length ≤ left ∧ ∀ s ∈ l, s.length ≤ left)
def TS (l : List Ap) (L : Bh) : Cs := fun v I' L' => ∃ x, v = .slice (some x) l.length l.length ∧ Strs I' (some x) l l.length ∧ L = L'
section rules
variable {P : Program} {f : FuncId} {n : Nat} {I₀ : Heap} {Q : Cs} {k : List Item} {E : Gm} {I : Heap} {L : Bh}
variable {ops : Array Oper} {d : Nat} {ty : TypeId} {pos : String} {af : Array Edge} {g : Option (Nat × Bool)} {l : List Oper}

theorem Xl {S : World → Prop} {T T' : TypeId} {x y : Operand} {a b : Nat} (hx : A7 E x = some (.int .i64 (a : Nat))) (hy : A7 E y = some (.int .i64 (b : Nat))) (hb : 0 < b) :
  Gn P E S ⟨some d, .binOp .rem T x y T', ty, pos, af, g⟩ (.int .i64 ((a % b : Nat))) := fun ac w he _ => by
 simp only [execOp, he.eval hx, he.eval hy]
 refine Ac (a := _) (w' := w) ?_ |>.trans rfl
 rw [Ac (Ey w)]
 have h0 : ¬ ((b : Int) = 0) := by omega
 have h1 : ((a : Int).tmod (b : Int)) = ((a % b : Nat) : Int) := by rw [Int.ofNat_tmod]
 simp only [binOp, Op.intDiv, if_neg h0, h1, ne_eq, not_true_eq_false, if_false]; rfl
theorem Ach {T T' : TypeId} {x y : Operand} {a b : Nat} (hx : A7 E x = some (.int .i64 (a : Nat))) (hy : A7 E y = some (.int .i64 (b : Nat))) (hb : 0 < b) (hg : Wants ops E g) (hdn : Nat.blt d n = true)
  (h : A4 P f n I₀ Q ops l k ((d, .int .i64 ((a % b : Nat))) :: E) I L) : A4 P f n I₀ Q ops (⟨some d, .binOp .rem T x y T', ty, pos, af, g⟩ :: l) k E I L := Dr (Xl hx hy hb) hg hdn h
theorem Aba {S : World → Prop} {T T' : TypeId} {x y : Operand} {a b : Nat} (hx : A7 E x = some (.int .i64 (a : Nat))) (hy : A7 E y = some (.int .i64 (b : Nat))) (hb : 0 < b) (ha : a ≤ 9223372036854775807) :
  Gn P E S ⟨some d, .binOp .quo T x y T', ty, pos, af, g⟩ (.int .i64 ((a / b : Nat))) := fun ac w he _ => by
 simp only [execOp, he.eval hx, he.eval hy]
 refine Ac (a := _) (w' := w) ?_ |>.trans rfl
 rw [Ac (Ey w)]
 have h0 : ¬ ((b : Int) = 0) := by omega
 have h1 : ((a : Int).tdiv (b : Int)) = ((a / b : Nat) : Int) := by rw [Int.ofNat_tdiv]
 have h2 : IntKind.i64.wrap ((a / b : Nat) : Int) = ((a / b : Nat) : Int) := by
  obtain ⟨q, hq, hle⟩ : ∃ q, q = a / b ∧ q ≤ a := ⟨_, rfl, Nat.div_le_self a b⟩; rw [← hq]; exact M8 (by omega)
 simp only [binOp, Op.intDiv, if_neg h0, h1, h2, ne_eq, not_true_eq_false, if_false]; rfl
theorem Adi {T T' : TypeId} {x y : Operand} {a b : Nat} (hx : A7 E x = some (.int .i64 (a : Nat))) (hy : A7 E y = some (.int .i64 (b : Nat))) (hb : 0 < b) (ha : a ≤ 9223372036854775807) (hg : Wants ops E g) (hdn : Nat.blt d n = true)
  (h : A4 P f n I₀ Q ops l k ((d, .int .i64 ((a / b : Nat))) :: E) I L) : A4 P f n I₀ Q ops (⟨some d, .binOp .quo T x y T', ty, pos, af, g⟩ :: l) k E I L := Dr (Aba hx hy hb ha) hg hdn h
theorem Adn {S : World → Prop} {T T' : TypeId} {x y : Operand} {a b : Nat} (hx : A7 E x = some (.int .i64 (a : Nat))) (hy : A7 E y = some (.int .i64 (b : Nat))) (ha : a ≤ 9223372036854775807) (hb : b ≤ 9223372036854775807) :
  Gn P E S ⟨some d, .binOp .xor T x y T', ty, pos, af, g⟩ (.int .i64 ((a ^^^ b : Nat))) := fun ac w he _ => by
 simp only [execOp, he.eval hx, he.eval hy]
 refine Ac (a := _) (w' := w) ?_ |>.trans rfl
 rw [Ac (Ey w)]
 have hn : ∀ c : Nat, c ≤ 9223372036854775807 → (BitVec.ofInt 64 (c : Int)).toNat = c := fun c hc => by
  rw [BitVec.ofInt_natCast, BitVec.toNat_ofNat]; exact Nat.mod_eq_of_lt (by omega)
 have hlt : a ^^^ b < 2 ^ 63 := Nat.xor_lt_two_pow (by omega) (by omega)
 have h1 : (BitVec.ofInt IntKind.i64.bits (a : Int) ^^^ BitVec.ofInt IntKind.i64.bits (b : Int)).toNat = a ^^^ b := by
  show (BitVec.ofInt 64 (a : Int) ^^^ BitVec.ofInt 64 (b : Int)).toNat = _
  rw [BitVec.toNat_xor, hn a ha, hn b hb]
 have h2 : IntKind.i64.wrap ((a ^^^ b : Nat) : Int) = ((a ^^^ b : Nat) : Int) := M8 (by omega)
 simp only [binOp, Op.intBits, h1, h2, ne_eq, not_true_eq_false, if_false]; rfl
theorem Adj {T T' : TypeId} {x y : Operand} {a b : Nat} (hx : A7 E x = some (.int .i64 (a : Nat))) (hy : A7 E y = some (.int .i64 (b : Nat))) (ha : a ≤ 9223372036854775807) (hb : b ≤ 9223372036854775807) (hg : Wants ops E g) (hdn : Nat.blt d n = true)
  (h : A4 P f n I₀ Q ops l k ((d, .int .i64 ((a ^^^ b : Nat))) :: E) I L) : A4 P f n I₀ Q ops (⟨some d, .binOp .xor T x y T', ty, pos, af, g⟩ :: l) k E I L := Dr (Adn hx hy ha hb) hg hdn h

theorem N4 {S : World → Prop} {src dst sz bb sz2 bb2 : Nat} {z z2 : List Value} [hs : Aq P src (.int .u8) sz bb z] [hd : Aq P dst (.int .i64) sz2 bb2 z2] {x : Operand} {a : Nat} (hx : A7 E x = some (.int .u8 (a : Nat))) (ha : a < 256) :
  Gn P E S ⟨some d, .convert src dst x, ty, pos, af, g⟩ (.int .i64 (a : Nat)) := fun ac w he _ => by
 simp only [execOp, he.eval hx]
 refine Ac (a := .int .i64 (a : Nat)) (w' := w) ?_ |>.trans rfl
 unfold convert
 rw [Ac (A8 hs.und w), Ac (A8 hd.und w)]
 simp only [Conv.intToInt]
 rw [M8 (by omega)]
 rfl
theorem Lj {src dst sz bb sz2 bb2 : Nat} {z z2 : List Value} [hs : Aq P src (.int .u8) sz bb z] [hd : Aq P dst (.int .i64) sz2 bb2 z2] {x : Operand} {a : Nat} (hx : A7 E x = some (.int .u8 (a : Nat))) (ha : a < 256) (hg : Wants ops E g) (hdn : Nat.blt d n = true)
  (h : A4 P f n I₀ Q ops l k ((d, .int .i64 (a : Nat)) :: E) I L) : A4 P f n I₀ Q ops (⟨some d, .convert src dst x, ty, pos, af, g⟩ :: l) k E I L := Dr (N4 hx ha) hg hdn h
end rules

structure Bytes (I : Heap) (oa : Option Addr) (l : List UInt8) (c : Nat) : Prop where
 still : ∀ x, oa = some x → Still I x (l.map bv)
 nil : oa = none → l = []
 cap : l.length ≤ c
 len : l.length ≤ 9223372036854775807
theorem Bytes.mono {I I' : Heap} {oa : Option Addr} {l : List UInt8} {c : Nat} (hle : HLe I I') (h : Bytes I oa l c) : Bytes I' oa l c :=
 ⟨fun x hx => (h.still x hx).mono hle, h.nil, h.cap, h.len⟩
theorem Bytes.at {I : Heap} {oa : Option Addr} {l : List UInt8} {c : Nat} (h : Bytes I oa l c) (i : Nat) (hi : i < l.length) : ∃ x, oa = some x ∧ Still I (x.add (i * 1)) [.int .u8 (l[i].toNat : Nat)] := by
 cases oa with
 | none => have := h.nil rfl; subst this; simp at hi
 | some x =>
  refine ⟨x, rfl, (h.still x rfl).part (i * 1) ?_⟩; intro j hj; obtain rfl : j = 0 := by simpa using hj
  simp [hi, bv]
end Go.Proofs.YtfddjcmeejjhiaaGreatDoor
