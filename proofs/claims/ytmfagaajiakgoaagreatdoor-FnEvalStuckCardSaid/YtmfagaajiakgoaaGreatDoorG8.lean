/- Environments of types, by the program: one name more, the environment of a part. No conditions. -/
import Derived.Test.YtmfagaajiakgoaaGreatDoorG7

namespace Go.Proofs.YtmfagaajiakgoaaGreatDoor
set_option maxRecDepth 100000
set_option linter.unusedVariables false
set_option linter.unusedSimpArgs false

section rules
variable {P : Program} {f : FuncId} {n : Nat} {I₀ : Heap} {Q : C8} {k : List Item} {E : Hy} {I : Heap} {L : Bs}
variable {ops : Array Oper} {S : World → Prop} {fuel : Nat} {listed : Array Bool}
theorem S1 {I : Heap} {e : TypeId} {ts : List Tree} {vs : List Value} {B : K9} {m c : Nat} (hl : RepL I ts vs) (hB : E6 2 m c vs B) (hm : m = ts.length) (hn : ts.length ≤ A9) :
  (B = none ∧ ts = []) ∨ ∃ b sp, B = some (b, sp) ∧ Cn e vs B = [(b, .cells (vs ++ sp).toArray e (0, 0))] ∧ ts.length ≤ c := by
 cases B with
 | none =>
  obtain ⟨h1, h2, h3⟩ := hB
  exact .inl ⟨rfl, List.length_eq_zero_iff.1 Ab⟩
 | some p => exact .inr ⟨p.1, p.2, rfl, rfl, by have := hB.2.1; omega⟩
theorem Rm (I : Heap) : Forms I none [] 0 := ⟨⟨[], .nil, by simp⟩, fun _ => rfl, by simp, by simp [A9]⟩
theorem So {todo : List Item} {e : TypeId} {ts : List Tree} {vs : List Value} {B : K9} {m c : Nat} (hl : RepL I ts vs) (hB : E6 2 m c vs B) (hm : m = ts.length) (hn : ts.length ≤ A9)
  (h : ∀ I' oa c', HLe I I' → Ch m c B = .slice oa ts.length c' → Forms I' oa ts c' → RunS P f n I₀ Q todo E I' L) : RunS P f n I₀ Q todo E I (Cn e vs B ++ L) := by
 rcases S1 (e := e) hl hB hm hn with ⟨rfl, rfl⟩ | ⟨b, sp, rfl, _, hc⟩
 ·exact h I none 0 (.refl _) rfl (Rm _)
 ·exact Bv fun hle => h _ (some ⟨b, 0, none⟩) c hle (by rw [← hm]; rfl) (Pl hl hle hc hn)
theorem E5 {e : TypeId} {ts : List Tree} {vs : List Value} {B : K9} {m c : Nat} (hl : RepL I ts vs) (hB : E6 2 m c vs B) (hm : m = ts.length) (hn : ts.length ≤ A9)
  (h : ∀ I' oa c', HLe I I' → Ch m c B = .slice oa ts.length c' → Forms I' oa ts c' → C3 P f n I₀ Q ops S fuel listed k E I' L) : C3 P f n I₀ Q ops S fuel listed k E I (Cn e vs B ++ L) := by
 rcases S1 (e := e) hl hB hm hn with ⟨rfl, rfl⟩ | ⟨b, sp, rfl, _, hc⟩
 ·exact h I none 0 (.refl _) rfl (Rm _)
 ·exact Ed fun hle => h _ (some ⟨b, 0, none⟩) c hle (by rw [← hm]; rfl) (Pl hl hle hc hn)
end rules

theorem Gv {I : Heap} {oa : Option Addr} {l : List Av} {c : Nat} (h : Strs I oa l c) (L : Bs) :
  Fun Tryz.prog 186 [.slice oa l.length c] I L (fun v I' L' => ∃ B c', v = Ch l.length c' B ∧ E6 1 l.length c' (l.map sv) B ∧ I = I' ∧ L' = Cn 9 (l.map sv) B ++ L) := by
 have hlen := h.len
 unfold A9 at hlen
 refine Ao Af ?_; refine Se rfl (Oa rfl (Aa (Ag (Se rfl (Om rfl ?_))))); refine Hn rfl rfl .free rfl ?_; refine Aa ?_; refine Aw rfl ?_ ?_
 ·intro c0
  try simp only [nb] at c0
  have hnil : l = [] := h.nil Et
  refine Se rfl (Oa rfl (Aa (Ai (.tmp rfl .nil) ?_)))
  exact ⟨I, L, .refl _, fun _ h => h, none, 0, by rw [hnil]; rfl, by rw [hnil]; exact ⟨rfl, rfl, rfl⟩, rfl, by simp [Cn]⟩
 intro c0
 try simp only [nb] at c0
 refine Ak (Se rfl ?_); refine Eo .free rfl ?_; intro b5; refine Om rfl ?_; refine I0 (B := some (b5, [])) (xs := []) (ys := l.map sv) (m := 0) (c := 0) (L₀ := L) A5 Ae rfl rfl ⟨rfl, Nat.le_refl _, rfl⟩ (fun _ h => h) Af h.reads h.none (Ee l) Ad Ab Ad .free rfl ?_; intro B1 c1 hB1; refine Oa rfl (Aa (Ai (.tmp rfl .nil) ?_))
 exact ⟨I, _, .refl _, fun _ h => h, B1, c1, by simp [C9], by simpa using hB1, rfl, rfl⟩
theorem Eg {I : Heap} {oa : Option Addr} {ts : List Tree} {c : Nat} (h : Forms I oa ts c) (L : Bs) :
  Fun Tryz.prog 114 [.slice oa ts.length c] I L (fun v I' L' => ∃ vs B c', RepL I ts vs ∧ v = Ch ts.length c' B ∧ E6 2 ts.length c' vs B ∧ I = I' ∧ L' = Cn 49 vs B ++ L) := by
 obtain ⟨⟨vs, hl, hst⟩, hn, hc, hlen⟩ := h
 unfold A9 at hlen
 have hvl := hl.length
 refine Ao Af ?_; refine Se rfl (Oa rfl (Aa (Ag (Se rfl (Om rfl ?_))))); refine Hn rfl rfl .free rfl ?_; refine Aa ?_; refine Aw rfl ?_ ?_
 ·intro c0
  try simp only [nb] at c0
  have hnil : ts = [] := hn Et
  subst hnil; refine Se rfl (Oa rfl (Aa (Ai (.tmp rfl .nil) ?_)))
  exact ⟨I, L, .refl _, fun _ h => h, [], none, 0, .nil, rfl, ⟨rfl, rfl, rfl⟩, rfl, rfl⟩
 intro c0
 try simp only [nb] at c0
 refine Ak (Se rfl ?_); refine Eo .free rfl ?_; intro b5; refine Om rfl ?_; refine I0 (B := some (b5, [])) (xs := []) (ys := vs) (m := 0) (c := 0) (L₀ := L) A5 Ae rfl rfl ⟨rfl, Nat.le_refl _, rfl⟩ (fun _ h => h) Ab (fun a ha => (hst a ha).reads) (fun ha => by rw [hn ha] at hvl; exact List.length_eq_zero_iff.1 (by simpa using hvl)) hl.plain Ad Ab Ad .free rfl ?_; intro B1 c1 hB1; refine Oa rfl (Aa (Ai (.tmp rfl .nil) ?_))
 exact ⟨I, _, .refl _, fun _ h => h, vs, B1, c1, hl, by simp [C9], by simpa using hB1, rfl, rfl⟩

structure EnvAt (I : Heap) (l : List Av) (m : List Ty) (oa : Option Addr) (c : Nat) (ob : Option Addr) (c' : Nat) : Prop where
 names : Strs I oa l c
 types : Forms I ob (m.map Ty.tree) c'
 len : l.length = m.length
 small : smallL m
theorem EnvAt.mono {I I' : Heap} (hle : HLe I I') {l : List Av} {m : List Ty} {oa : Option Addr} {c : Nat} {ob : Option Addr} {c' : Nat} (h : EnvAt I l m oa c ob c') : EnvAt I' l m oa c ob c' :=
 ⟨h.names.mono hle, h.types.mono hle, h.len, h.small⟩
def RV (l : List Av) (m : List Ty) (L : Bs) : C8 := fun v I' L' => ∃ oa c ob c', v = .agg [.slice oa (List.length l) c, .slice ob (List.map Ty.tree m).length c'].toArray ∧ EnvAt I' l m oa c ob c' ∧ L = L'
theorem N0 {I : Heap} {l : List Av} {m : List Ty} {oa ob : Option Addr} {c c' : Nat} (h : EnvAt I l m oa c ob c') (x : Av) (hx : x.length ≤ A9) {t : Ty} {cs : List Value} (ht : Rep I t.tree cs) (hts : t.size ≤ 16) (hroom : l.length + 1 ≤ A9) (L : Bs) :
  Fun Tryz.prog 153 [.agg [.slice oa l.length c, .slice ob (m.map Ty.tree).length c'].toArray, .string (str x), .agg cs.toArray] I L (RV (l ++ [x]) (m ++ [t]) L) := by
 obtain ⟨ot, ct, _, rfl, -⟩ := ht.open
 have hle0 : HLe I I := .refl _
 have hlm := h.len
 unfold A9 at hroom
 refine Ao Af ?_; refine Se rfl ?_; refine Cj rfl rfl .free rfl ?_; intro b3; refine Cj rfl rfl .free rfl ?_; intro b5; refine Az .free rfl ?_; intro b6; refine Aa (Ag ?_); refine Dj 14 rfl rfl ?_; refine Da 0 rfl (Ap rfl) ?_; refine Dt 1 [13] rfl (B6 rfl) ?_; refine Da 3 rfl (Al rfl) ?_; refine Da 6 rfl (Ap rfl) ?_; refine Dt 7 [13] rfl (B6 rfl) ?_; refine Dt 9 [13] rfl (Ck rfl) ?_; refine Jr 2 4 10 Ac ?_ ?_ ?_
 ·skip
  refine F4 2 rfl rfl rfl .free rfl (Gv h.names _) ?_; rintro _ _ _ _ ⟨B1, c1, rfl, hB1, rfl, rfl⟩; refine Hx ?_; refine Cw 4 10 Ac ?_ ?_
  ·skip
   refine Hb 4 rfl rfl rfl rfl Ae Ae Ae Ad Ad Ae .free rfl (.inr As) ?_; intro b11; refine Cw 5 10 Ac ?_ ?_
   ·skip
    refine Pq 5 (B := B1) (xs := l.map sv) (ys := [sv x]) (m := l.length) (c := c1) rfl rfl A5 Ae rfl rfl hB1 D9 Ae (fun a ha => by cases ha; exact Bt Dv Ae) Af Ae Ad Ab Ad .free rfl (fun _ => .inr As) ?_; intro B2 c2 hB2; rw [show l.map sv ++ [sv x] = (l ++ [x]).map sv by simp] at hB2 ⊢; refine Dl hB2 Af Ec Jb ?_; intro J1 o1 k1 e1 hbv1 hst1; refine E2 (t := 12) rfl hbv1 ?_
    have h := h.mono e1
    have ht := ht.mono e1
    refine Cw 8 10 Ac ?_ ?_
    ·skip
     refine F4 8 rfl rfl rfl .free rfl (Eg h.types _) ?_; rintro _ _ _ _ ⟨vs, B3, c3, hl3, rfl, hB3, rfl, rfl⟩; refine Hx ?_; refine Fn 10 rfl Ac rfl rfl rfl Ae Ae Ae Ad Ad Ae .free rfl (.inr As) ?_; intro b17; refine Cg 11 (B := B3) (xs := vs) (ys := [.string (str t.tree.atom), .slice ot t.tree.parts.length ct]) (m := (m.map Ty.tree).length) (c := c3) rfl Ac rfl A5 Ae rfl rfl hB3 D9 Ae (fun a ha => by cases ha; exact Bt Dv Ae) Af Ae Ad Cv Ad .free rfl (fun _ => .inr As) ?_; intro B4 c4 hB4; refine E5 (ts := (m ++ [t]).map Ty.tree) G1 hB4 Af Ec ?_; intro J2 o2 k2 e2 hbv2 hst2
     have hle0 := e1.trans e2
     refine E2 (t := 18) rfl hbv2 ?_; refine Da 12 rfl (E1 rfl rfl rfl) ?_; refine Dx 13 rfl rfl rfl rfl ?_; refine Au Ac ?_; refine Ai (.c rfl .nil) ?_
     exact ⟨J2, L, e1.trans e2, Ba, o1, k1, o2, k2, rfl, ⟨hst1.mono e2, hst2, by simp [hlm], h.small.add hts⟩, rfl⟩
    ·skip
     refine Hb 10 rfl rfl rfl rfl Ae Ae Ae Ad Ad Ae .free rfl (.inr As) ?_; intro b17; refine Dc 8 rfl rfl (Eg h.types _) ?_; rintro _ _ _ _ ⟨vs, B3, c3, hl3, rfl, hB3, rfl, rfl⟩; refine Hx ?_; refine Cg 11 (B := B3) (xs := vs) (ys := [.string (str t.tree.atom), .slice ot t.tree.parts.length ct]) (m := (m.map Ty.tree).length) (c := c3) rfl Ac rfl A5 Ae rfl rfl hB3 D9 Ae (fun a ha => by cases ha; exact Bt Dv Ae) Af Ae Ad Cv Ad .free rfl (fun _ => .inr As) ?_; intro B4 c4 hB4; refine E5 (ts := (m ++ [t]).map Ty.tree) G1 hB4 Af Ec ?_; intro J2 o2 k2 e2 hbv2 hst2
     have hle0 := e1.trans e2
     refine E2 (t := 18) rfl hbv2 ?_; refine Da 12 rfl (E1 rfl rfl rfl) ?_; refine Dx 13 rfl rfl rfl rfl ?_; refine Au Ac ?_; refine Ai (.c rfl .nil) ?_
     exact ⟨J2, L, e1.trans e2, Ba, o1, k1, o2, k2, rfl, ⟨hst1.mono e2, hst2, by simp [hlm], h.small.add hts⟩, rfl⟩
   ·skip
    refine Hb 10 rfl rfl rfl rfl Ae Ae Ae Ad Ad Ae .free rfl (.inr As) ?_; intro b17; refine Cg 5 (B := B1) (xs := l.map sv) (ys := [sv x]) (m := l.length) (c := c1) rfl Ac rfl A5 Ae rfl rfl hB1 D9 Ae (fun a ha => by cases ha; exact Bt Dv Ae) Af Ae Ad Ab Ad .free rfl (fun _ => .inr As) ?_; intro B2 c2 hB2; rw [show l.map sv ++ [sv x] = (l ++ [x]).map sv by simp] at hB2 ⊢; refine Dl hB2 Af Ec Jb ?_; intro J1 o1 k1 e1 hbv1 hst1; refine E2 (t := 12) rfl hbv1 ?_
    have h := h.mono e1
    have ht := ht.mono e1
    refine Dc 8 rfl rfl (Eg h.types _) ?_; rintro _ _ _ _ ⟨vs, B3, c3, hl3, rfl, hB3, rfl, rfl⟩; refine Hx ?_; refine Cg 11 (B := B3) (xs := vs) (ys := [.string (str t.tree.atom), .slice ot t.tree.parts.length ct]) (m := (m.map Ty.tree).length) (c := c3) rfl Ac rfl A5 Ae rfl rfl hB3 D9 Ae (fun a ha => by cases ha; exact Bt Dv Ae) Af Ae Ad Cv Ad .free rfl (fun _ => .inr As) ?_; intro B4 c4 hB4; refine E5 (ts := (m ++ [t]).map Ty.tree) G1 hB4 Af Ec ?_; intro J2 o2 k2 e2 hbv2 hst2
    have hle0 := e1.trans e2
    refine E2 (t := 18) rfl hbv2 ?_; refine Da 12 rfl (E1 rfl rfl rfl) ?_; refine Dx 13 rfl rfl rfl rfl ?_; refine Au Ac ?_; refine Ai (.c rfl .nil) ?_
    exact ⟨J2, L, e1.trans e2, Ba, o1, k1, o2, k2, rfl, ⟨hst1.mono e2, hst2, by simp [hlm], h.small.add hts⟩, rfl⟩
  ·skip
   refine Hb 10 rfl rfl rfl rfl Ae Ae Ae Ad Ad Ae .free rfl (.inr As) ?_; intro b17; refine Fn 4 rfl Ac rfl rfl rfl Ae Ae Ae Ad Ad Ae .free rfl (.inr As) ?_; intro b11; refine Cg 5 (B := B1) (xs := l.map sv) (ys := [sv x]) (m := l.length) (c := c1) rfl Ac rfl A5 Ae rfl rfl hB1 D9 Ae (fun a ha => by cases ha; exact Bt Dv Ae) Af Ae Ad Ab Ad .free rfl (fun _ => .inr As) ?_; intro B2 c2 hB2; rw [show l.map sv ++ [sv x] = (l ++ [x]).map sv by simp] at hB2 ⊢; refine Dl hB2 Af Ec Jb ?_; intro J1 o1 k1 e1 hbv1 hst1; refine E2 (t := 12) rfl hbv1 ?_
   have h := h.mono e1
   have ht := ht.mono e1
   refine Dc 8 rfl rfl (Eg h.types _) ?_; rintro _ _ _ _ ⟨vs, B3, c3, hl3, rfl, hB3, rfl, rfl⟩; refine Hx ?_; refine Cg 11 (B := B3) (xs := vs) (ys := [.string (str t.tree.atom), .slice ot t.tree.parts.length ct]) (m := (m.map Ty.tree).length) (c := c3) rfl Ac rfl A5 Ae rfl rfl hB3 D9 Ae (fun a ha => by cases ha; exact Bt Dv Ae) Af Ae Ad Cv Ad .free rfl (fun _ => .inr As) ?_; intro B4 c4 hB4; refine E5 (ts := (m ++ [t]).map Ty.tree) G1 hB4 Af Ec ?_; intro J2 o2 k2 e2 hbv2 hst2
   have hle0 := e1.trans e2
   refine E2 (t := 18) rfl hbv2 ?_; refine Da 12 rfl (E1 rfl rfl rfl) ?_; refine Dx 13 rfl rfl rfl rfl ?_; refine Au Ac ?_; refine Ai (.c rfl .nil) ?_
   exact ⟨J2, L, e1.trans e2, Ba, o1, k1, o2, k2, rfl, ⟨hst1.mono e2, hst2, by simp [hlm], h.small.add hts⟩, rfl⟩
 ·skip
  refine Hb 4 rfl rfl rfl rfl Ae Ae Ae Ad Ad Ae .free rfl (.inr As) ?_; intro b11; refine Cw 2 10 Ac ?_ ?_
  ·skip
   refine F4 2 rfl rfl rfl .free rfl (Gv h.names _) ?_; rintro _ _ _ _ ⟨B1, c1, rfl, hB1, rfl, rfl⟩; refine Hx ?_; refine Cw 5 10 Ac ?_ ?_
   ·skip
    refine Pq 5 (B := B1) (xs := l.map sv) (ys := [sv x]) (m := l.length) (c := c1) rfl rfl A5 Ae rfl rfl hB1 D9 Ae (fun a ha => by cases ha; exact Bt Dv Ae) Af Ae Ad Ab Ad .free rfl (fun _ => .inr As) ?_; intro B2 c2 hB2; rw [show l.map sv ++ [sv x] = (l ++ [x]).map sv by simp] at hB2 ⊢; refine Dl hB2 Af Ec Jb ?_; intro J1 o1 k1 e1 hbv1 hst1; refine E2 (t := 12) rfl hbv1 ?_
    have h := h.mono e1
    have ht := ht.mono e1
    refine Cw 8 10 Ac ?_ ?_
    ·skip
     refine F4 8 rfl rfl rfl .free rfl (Eg h.types _) ?_; rintro _ _ _ _ ⟨vs, B3, c3, hl3, rfl, hB3, rfl, rfl⟩; refine Hx ?_; refine Fn 10 rfl Ac rfl rfl rfl Ae Ae Ae Ad Ad Ae .free rfl (.inr As) ?_; intro b17; refine Cg 11 (B := B3) (xs := vs) (ys := [.string (str t.tree.atom), .slice ot t.tree.parts.length ct]) (m := (m.map Ty.tree).length) (c := c3) rfl Ac rfl A5 Ae rfl rfl hB3 D9 Ae (fun a ha => by cases ha; exact Bt Dv Ae) Af Ae Ad Cv Ad .free rfl (fun _ => .inr As) ?_; intro B4 c4 hB4; refine E5 (ts := (m ++ [t]).map Ty.tree) G1 hB4 Af Ec ?_; intro J2 o2 k2 e2 hbv2 hst2
     have hle0 := e1.trans e2
     refine E2 (t := 18) rfl hbv2 ?_; refine Da 12 rfl (E1 rfl rfl rfl) ?_; refine Dx 13 rfl rfl rfl rfl ?_; refine Au Ac ?_; refine Ai (.c rfl .nil) ?_
     exact ⟨J2, L, e1.trans e2, Ba, o1, k1, o2, k2, rfl, ⟨hst1.mono e2, hst2, by simp [hlm], h.small.add hts⟩, rfl⟩
    ·skip
     refine Hb 10 rfl rfl rfl rfl Ae Ae Ae Ad Ad Ae .free rfl (.inr As) ?_; intro b17; refine Dc 8 rfl rfl (Eg h.types _) ?_; rintro _ _ _ _ ⟨vs, B3, c3, hl3, rfl, hB3, rfl, rfl⟩; refine Hx ?_; refine Cg 11 (B := B3) (xs := vs) (ys := [.string (str t.tree.atom), .slice ot t.tree.parts.length ct]) (m := (m.map Ty.tree).length) (c := c3) rfl Ac rfl A5 Ae rfl rfl hB3 D9 Ae (fun a ha => by cases ha; exact Bt Dv Ae) Af Ae Ad Cv Ad .free rfl (fun _ => .inr As) ?_; intro B4 c4 hB4; refine E5 (ts := (m ++ [t]).map Ty.tree) G1 hB4 Af Ec ?_; intro J2 o2 k2 e2 hbv2 hst2
     have hle0 := e1.trans e2
     refine E2 (t := 18) rfl hbv2 ?_; refine Da 12 rfl (E1 rfl rfl rfl) ?_; refine Dx 13 rfl rfl rfl rfl ?_; refine Au Ac ?_; refine Ai (.c rfl .nil) ?_
     exact ⟨J2, L, e1.trans e2, Ba, o1, k1, o2, k2, rfl, ⟨hst1.mono e2, hst2, by simp [hlm], h.small.add hts⟩, rfl⟩
   ·skip
    refine Hb 10 rfl rfl rfl rfl Ae Ae Ae Ad Ad Ae .free rfl (.inr As) ?_; intro b17; refine Cg 5 (B := B1) (xs := l.map sv) (ys := [sv x]) (m := l.length) (c := c1) rfl Ac rfl A5 Ae rfl rfl hB1 D9 Ae (fun a ha => by cases ha; exact Bt Dv Ae) Af Ae Ad Ab Ad .free rfl (fun _ => .inr As) ?_; intro B2 c2 hB2; rw [show l.map sv ++ [sv x] = (l ++ [x]).map sv by simp] at hB2 ⊢; refine Dl hB2 Af Ec Jb ?_; intro J1 o1 k1 e1 hbv1 hst1; refine E2 (t := 12) rfl hbv1 ?_
    have h := h.mono e1
    have ht := ht.mono e1
    refine Dc 8 rfl rfl (Eg h.types _) ?_; rintro _ _ _ _ ⟨vs, B3, c3, hl3, rfl, hB3, rfl, rfl⟩; refine Hx ?_; refine Cg 11 (B := B3) (xs := vs) (ys := [.string (str t.tree.atom), .slice ot t.tree.parts.length ct]) (m := (m.map Ty.tree).length) (c := c3) rfl Ac rfl A5 Ae rfl rfl hB3 D9 Ae (fun a ha => by cases ha; exact Bt Dv Ae) Af Ae Ad Cv Ad .free rfl (fun _ => .inr As) ?_; intro B4 c4 hB4; refine E5 (ts := (m ++ [t]).map Ty.tree) G1 hB4 Af Ec ?_; intro J2 o2 k2 e2 hbv2 hst2
    have hle0 := e1.trans e2
    refine E2 (t := 18) rfl hbv2 ?_; refine Da 12 rfl (E1 rfl rfl rfl) ?_; refine Dx 13 rfl rfl rfl rfl ?_; refine Au Ac ?_; refine Ai (.c rfl .nil) ?_
    exact ⟨J2, L, e1.trans e2, Ba, o1, k1, o2, k2, rfl, ⟨hst1.mono e2, hst2, by simp [hlm], h.small.add hts⟩, rfl⟩
  ·skip
   refine Hb 10 rfl rfl rfl rfl Ae Ae Ae Ad Ad Ae .free rfl (.inr As) ?_; intro b17; refine Dc 2 rfl rfl (Gv h.names _) ?_; rintro _ _ _ _ ⟨B1, c1, rfl, hB1, rfl, rfl⟩; refine Hx ?_; refine Cg 5 (B := B1) (xs := l.map sv) (ys := [sv x]) (m := l.length) (c := c1) rfl Ac rfl A5 Ae rfl rfl hB1 D9 Ae (fun a ha => by cases ha; exact Bt Dv Ae) Af Ae Ad Ab Ad .free rfl (fun _ => .inr As) ?_; intro B2 c2 hB2; rw [show l.map sv ++ [sv x] = (l ++ [x]).map sv by simp] at hB2 ⊢; refine Dl hB2 Af Ec Jb ?_; intro J1 o1 k1 e1 hbv1 hst1; refine E2 (t := 12) rfl hbv1 ?_
   have h := h.mono e1
   have ht := ht.mono e1
   refine Dc 8 rfl rfl (Eg h.types _) ?_; rintro _ _ _ _ ⟨vs, B3, c3, hl3, rfl, hB3, rfl, rfl⟩; refine Hx ?_; refine Cg 11 (B := B3) (xs := vs) (ys := [.string (str t.tree.atom), .slice ot t.tree.parts.length ct]) (m := (m.map Ty.tree).length) (c := c3) rfl Ac rfl A5 Ae rfl rfl hB3 D9 Ae (fun a ha => by cases ha; exact Bt Dv Ae) Af Ae Ad Cv Ad .free rfl (fun _ => .inr As) ?_; intro B4 c4 hB4; refine E5 (ts := (m ++ [t]).map Ty.tree) G1 hB4 Af Ec ?_; intro J2 o2 k2 e2 hbv2 hst2
   have hle0 := e1.trans e2
   refine E2 (t := 18) rfl hbv2 ?_; refine Da 12 rfl (E1 rfl rfl rfl) ?_; refine Dx 13 rfl rfl rfl rfl ?_; refine Au Ac ?_; refine Ai (.c rfl .nil) ?_
   exact ⟨J2, L, e1.trans e2, Ba, o1, k1, o2, k2, rfl, ⟨hst1.mono e2, hst2, by simp [hlm], h.small.add hts⟩, rfl⟩
 ·skip
  refine Hb 10 rfl rfl rfl rfl Ae Ae Ae Ad Ad Ae .free rfl (.inr As) ?_; intro b17; refine Cw 2 4 Ac ?_ ?_
  ·skip
   refine F4 2 rfl rfl rfl .free rfl (Gv h.names _) ?_; rintro _ _ _ _ ⟨B1, c1, rfl, hB1, rfl, rfl⟩; refine Hx ?_; refine Fn 4 rfl Ac rfl rfl rfl Ae Ae Ae Ad Ad Ae .free rfl (.inr As) ?_; intro b11; refine Cg 5 (B := B1) (xs := l.map sv) (ys := [sv x]) (m := l.length) (c := c1) rfl Ac rfl A5 Ae rfl rfl hB1 D9 Ae (fun a ha => by cases ha; exact Bt Dv Ae) Af Ae Ad Ab Ad .free rfl (fun _ => .inr As) ?_; intro B2 c2 hB2; rw [show l.map sv ++ [sv x] = (l ++ [x]).map sv by simp] at hB2 ⊢; refine Dl hB2 Af Ec Jb ?_; intro J1 o1 k1 e1 hbv1 hst1; refine E2 (t := 12) rfl hbv1 ?_
   have h := h.mono e1
   have ht := ht.mono e1
   refine Dc 8 rfl rfl (Eg h.types _) ?_; rintro _ _ _ _ ⟨vs, B3, c3, hl3, rfl, hB3, rfl, rfl⟩; refine Hx ?_; refine Cg 11 (B := B3) (xs := vs) (ys := [.string (str t.tree.atom), .slice ot t.tree.parts.length ct]) (m := (m.map Ty.tree).length) (c := c3) rfl Ac rfl A5 Ae rfl rfl hB3 D9 Ae (fun a ha => by cases ha; exact Bt Dv Ae) Af Ae Ad Cv Ad .free rfl (fun _ => .inr As) ?_; intro B4 c4 hB4; refine E5 (ts := (m ++ [t]).map Ty.tree) G1 hB4 Af Ec ?_; intro J2 o2 k2 e2 hbv2 hst2
   have hle0 := e1.trans e2
   refine E2 (t := 18) rfl hbv2 ?_; refine Da 12 rfl (E1 rfl rfl rfl) ?_; refine Dx 13 rfl rfl rfl rfl ?_; refine Au Ac ?_; refine Ai (.c rfl .nil) ?_
   exact ⟨J2, L, e1.trans e2, Ba, o1, k1, o2, k2, rfl, ⟨hst1.mono e2, hst2, by simp [hlm], h.small.add hts⟩, rfl⟩
  ·skip
   refine Hb 4 rfl rfl rfl rfl Ae Ae Ae Ad Ad Ae .free rfl (.inr As) ?_; intro b11; refine Dc 2 rfl rfl (Gv h.names _) ?_; rintro _ _ _ _ ⟨B1, c1, rfl, hB1, rfl, rfl⟩; refine Hx ?_; refine Cg 5 (B := B1) (xs := l.map sv) (ys := [sv x]) (m := l.length) (c := c1) rfl Ac rfl A5 Ae rfl rfl hB1 D9 Ae (fun a ha => by cases ha; exact Bt Dv Ae) Af Ae Ad Ab Ad .free rfl (fun _ => .inr As) ?_; intro B2 c2 hB2; rw [show l.map sv ++ [sv x] = (l ++ [x]).map sv by simp] at hB2 ⊢; refine Dl hB2 Af Ec Jb ?_; intro J1 o1 k1 e1 hbv1 hst1; refine E2 (t := 12) rfl hbv1 ?_
   have h := h.mono e1
   have ht := ht.mono e1
   refine Dc 8 rfl rfl (Eg h.types _) ?_; rintro _ _ _ _ ⟨vs, B3, c3, hl3, rfl, hB3, rfl, rfl⟩; refine Hx ?_; refine Cg 11 (B := B3) (xs := vs) (ys := [.string (str t.tree.atom), .slice ot t.tree.parts.length ct]) (m := (m.map Ty.tree).length) (c := c3) rfl Ac rfl A5 Ae rfl rfl hB3 D9 Ae (fun a ha => by cases ha; exact Bt Dv Ae) Af Ae Ad Cv Ad .free rfl (fun _ => .inr As) ?_; intro B4 c4 hB4; refine E5 (ts := (m ++ [t]).map Ty.tree) G1 hB4 Af Ec ?_; intro J2 o2 k2 e2 hbv2 hst2
   have hle0 := e1.trans e2
   refine E2 (t := 18) rfl hbv2 ?_; refine Da 12 rfl (E1 rfl rfl rfl) ?_; refine Dx 13 rfl rfl rfl rfl ?_; refine Au Ac ?_; refine Ai (.c rfl .nil) ?_
   exact ⟨J2, L, e1.trans e2, Ba, o1, k1, o2, k2, rfl, ⟨hst1.mono e2, hst2, by simp [hlm], h.small.add hts⟩, rfl⟩
theorem I3 {I : Heap} {L L' : Bs} {a : Addr} {vs : List Value} (h : Gu I L a vs) (hs : ∀ w, Mem I L' w → Mem I L w) : Gu I L' a vs := fun w hw => h w (hs w hw)
theorem N7 {I I' : Heap} (hle : HLe I I') {L : Bs} {a : Addr} {vs : List Value} (h : Gu I L a vs) : Gu I' L a vs := fun w hw => h w (hw.le hle)
theorem Y6 (a : Addr) (o i : Nat) : (a.add o).add i = a.add (o + i) := by
 unfold Addr.add
 by_cases h1 : o = 0
 ·by_cases h2 : i = 0 <;> simp [h1, h2]
 ·by_cases h2 : i = 0
  ·simp [h1, h2]
  ·have : ¬ o + i = 0 := by omega
   simp [h1, h2, this, Nat.add_assoc]
theorem Aa5 {I : Heap} {L : Bs} {a : Addr} {vs us : List Value} {o k : Nat} (h : Gu I L a vs) (hc : Ou o k vs = some us) : Gu I L (a.add o) us := by
 intro w hw i hi; obtain ⟨h1, h2⟩ := Ov hc
 have h3 := h2 i Ab
 rw [List.getElem?_eq_getElem hi] at h3; obtain ⟨h4, h5⟩ := List.getElem?_eq_some_iff.1 h3; rw [Y6, h w hw (o + i) h4, h5]
theorem Ws {P : Program} {I : Heap} {L : Bs} {T : TypeId} {a : Addr} {vs : List Value} {fs : Array Field} {s b : Nat} {z : List Value} [ht : A0 P T (.struct fs) s b z] (h : Gu I L a vs) (hl : vs.length = s) : Gi P I L T a (.agg vs.toArray) := Lu hl h
theorem Ta {P : Program} {I : Heap} {L : Bs} {T : TypeId} {a : Addr} {vs : List Value} {v : Value} {o : Nat} {d : TypeDesc} {s b : Nat} {z : List Value} [ht : A0 P T d s b z] (h : Gu I L a vs) (hc : Ou o 1 vs = some [v]) (hd : N9 d = true) : Gi P I L T (a.add o) v := Fj hd (Aa5 h hc)
structure Have (I : Heap) (L : Bs) (oh : Option Addr) (ts : List Ty) : Prop where
 rep : ∀ k (hk : k < ts.length), ∃ o1 c1, Rep I ts[k].tree [.string (str ts[k].tree.atom), .slice o1 ts[k].tree.parts.length c1] ∧ Gu I L ((U4 oh).add (k * 2)) [.string (str ts[k].tree.atom), .slice o1 ts[k].tree.parts.length c1]
 nil : oh = none → ts.length = 0
theorem Have.mono {I I' : Heap} (hle : HLe I I') {L : Bs} {oh : Option Addr} {ts : List Ty} (h : Have I L oh ts) : Have I' L oh ts :=
 ⟨fun k hk => by obtain ⟨o1, c1, h1, h2⟩ := h.rep k hk; exact ⟨o1, c1, h1.mono hle, N7 hle h2⟩, h.nil⟩
theorem Have.sub {I : Heap} {L L' : Bs} {oh : Option Addr} {ts : List Ty} (h : Have I L oh ts) (hs : ∀ w, Mem I L' w → Mem I L w) : Have I L' oh ts :=
 ⟨fun k hk => by obtain ⟨o1, c1, h1, h2⟩ := h.rep k hk; exact ⟨o1, c1, h1, I3 h2 hs⟩, h.nil⟩
theorem Jm {I : Heap} {t u : Tree} {cs : List Value} (h : Rep I t cs) (e : t = u) : Rep I u cs := e ▸ h
theorem Afa {α : Type} {l : List α} (h : l.length = 1) : ∃ a, l = [a] := by
 match l, h with
 | [a], _ => exact ⟨a, rfl⟩
theorem S9 {α : Type} {l : List α} (h : l.length = 2) : ∃ a b, l = [a, b] := by
 match l, h with
 | [a, b], _ => exact ⟨a, b, rfl⟩
theorem Age {α : Type} {l : List α} (h : l.length = 3) : ∃ a b c, l = [a, b, c] := by
 match l, h with
 | [a, b, c], _ => exact ⟨a, b, c, rfl⟩

theorem Ik {I : Heap} {l : List Av} {m : List Ty} {oa ob : Option Addr} {c c' : Nat} (he : EnvAt I l m oa c ob c') {e : Ex} {cs : List Value} (h : Rep I e.tree cs) (hok : e.ok = true) (i : Nat) (hi : i ∈ Cx e.tree)
  {oh : Option Addr} {ts : List Ty} {ch : Nat} {L : Bs} (hh : Have I L oh ts) (hlt : ∀ x a b, e = .lt x a b → i = 3 → 0 < ts.length ∧ (ts.getD 0 .i).size ≤ 16) (hfn : ∀ f x s t b, e = .fn f x s t b → (Ty.fn s t).size ≤ 16) (hroom : l.length + 2 ≤ A9) :
  Fun Tryz.prog 109 [.agg [.slice oa l.length c, .slice ob (m.map Ty.tree).length c'].toArray, .agg cs.toArray, .int .i64 (i : Nat), .slice oh ts.length ch] I L (RV (e.inL i l) (e.inM i (ts.getD 0 .i) m) L) := by
 obtain ⟨oc, cc, oaf, cf, rfl, hf⟩ := h.at'
 have hhn := hh.nil
 have hle0 : HLe I I := .refl _
 refine Ao Af ?_; refine Se rfl ?_; refine Cj rfl rfl .free rfl ?_; intro b4; refine Cj rfl rfl .free rfl ?_; intro b5; refine Az .free rfl ?_; intro b8; refine Aa (Ag (Aq (Se rfl ?_))); refine A7 rfl .free rfl ?_; refine Ca rfl (Bq hf.rep _) ?_; rintro _ _ _ _ ⟨rfl, rfl, rfl⟩; refine Od rfl rfl rfl (Om rfl ?_)
 apply Cz 13 16 rfl
 ·intro g1_4 hk
  try simp only [nb] at g1_4
  refine Ow rfl ?_; refine D6 rfl rfl rfl (.met rfl rfl) rfl ?_; refine Ot rfl rfl ?_
  exact Ax 2 rfl rfl hk
 ·intro _ hk; refine A4 2 rfl ?_; refine Of rfl rfl ?_
  exact Ax 2 rfl rfl hk
 refine Oa rfl (Aa ?_); refine Aw rfl ?_ ?_
 ·intro c0
  try simp only [nb] at c0
  obtain ⟨x, a, b, rfl⟩ := Ex.of_let c0.1; obtain rfl : i = 3 := by omega
  simp only [Ex.ok, Bool.and_eq_true] at hok
  have hlen : (Ex.lt x a b).tree.parts.length = 4 := rfl
  obtain ⟨ht0, hts⟩ := hlt x a b rfl rfl
  have hg0 : ts.getD 0 .i = ts[0] := by simp [ht0]
  obtain ⟨o1, c1, hr0, hrd0⟩ := hh.rep 0 ht0; refine Ag ?_; refine Dj 11 rfl rfl ?_; refine Dt 0 [10] rfl (Ck rfl) ?_; refine Da 1 rfl (Ap rfl) ?_; refine Dt 2 [10] rfl (B6 rfl) ?_
  first | refine Da 3 rfl (Bl rfl rfl 1 rfl) ?_ | refine Da 3 rfl (Bm rfl rfl 1 rfl) ?_
  refine Da 4 rfl (Bf rfl) ?_; refine Dt 5 [10] rfl (It rfl) ?_; refine Da 6 rfl (Al rfl) ?_
  first | refine Da 7 rfl (Bl rfl rfl 0 rfl) ?_ | refine Da 7 rfl (Bm rfl rfl 0 rfl) ?_
  refine Dt 8 [10] rfl (Br rfl) ?_; refine Dc 9 rfl rfl (N0 he x (Ex.name_len hok.1.1) hr0 (by rw [← hg0]; exact hts) (by unfold A9 at *; omega) _) ?_; rintro _ J1 _ e1 ⟨o2, k2, o3, k3, rfl, he1, rfl⟩; refine Hx ?_; refine Dx 10 rfl rfl rfl rfl ?_; refine Au Ac ?_; refine Ai (.c rfl .nil) ?_
  exact ⟨J1, L, e1, Ba, o2, k2, o3, k3, by rw [hg0]; rfl, by rw [hg0]; exact he1, rfl⟩
 intro c0
 try simp only [nb] at c0
 refine Se rfl ?_; refine A7 rfl .free rfl ?_; refine Ca rfl (Bq hf.rep _) ?_; rintro _ _ _ _ ⟨rfl, rfl, rfl⟩; refine Od rfl rfl rfl (Oa rfl (Aa ?_)); refine Aw rfl ?_ ?_
 ·intro c1
  try simp only [nb] at c1
  obtain ⟨f, x, s, t, b, rfl⟩ := Ex.of_fun c1
  simp only [Ex.ok, Bool.and_eq_true, decide_eq_true_eq] at hok
  have hlen : (Ex.fn f x s t b).tree.parts.length = 6 := rfl
  have hfs := hfn f x s t b rfl
  refine Ag ?_; refine Dj 20 rfl rfl ?_; refine Dt 0 [19] rfl (Ck rfl) ?_; refine Da 1 rfl (Ap rfl) ?_; refine Dt 2 [19] rfl (B6 rfl) ?_
  first | refine Da 3 rfl (Bl rfl rfl 1 rfl) ?_ | refine Da 3 rfl (Bm rfl rfl 1 rfl) ?_
  refine Da 4 rfl (Bf rfl) ?_; refine Dt 5 [19] rfl (It rfl) ?_; refine Dt 6 [19] rfl (Ck rfl) ?_; refine Da 9 rfl (Ap rfl) ?_; refine Dt 10 [19] rfl (B6 rfl) ?_
  first | refine Da 11 rfl (Bl rfl rfl 2 rfl) ?_ | refine Da 11 rfl (Bm rfl rfl 2 rfl) ?_
  refine Da 12 rfl (Bf rfl) ?_; refine Dt 13 [19] rfl (It rfl) ?_; refine Da 14 rfl (Ap rfl) ?_; refine Dt 15 [19] rfl (B6 rfl) ?_
  first | refine Da 16 rfl (Bl rfl rfl 3 rfl) ?_ | refine Da 16 rfl (Bm rfl rfl 3 rfl) ?_
  refine Dt 17 [19] rfl (Br rfl) ?_; refine Dc 7 rfl rfl (Pk hf.rep _) ?_; rintro _ J1 _ e1 ⟨cs1, rfl, h1, rfl⟩
  have he := he.mono e1
  have hf := hf.mono e1
  refine Hx ?_; refine Dc 8 rfl rfl (N0 he f (Ex.name_len hok.1.1.1.1.1) h1 hfs (by unfold A9 at *; omega) _) ?_; rintro _ J2 _ e2 ⟨o2, k2, o3, k3, rfl, he1, rfl⟩
  have hf := hf.mono e2
  have hle1 := e1.trans e2
  refine Hx ?_; refine Dc 18 rfl rfl (N0 he1 x (Ex.name_len hok.1.1.1.1.2) (hf.as 3 s.tree Ab rfl) hok.1.1.2 (by simp; unfold A9 at *; omega) _) ?_; rintro _ J3 _ e3 ⟨o4, k4, o5, k5, rfl, he2, rfl⟩
  have hle2 := hle1.trans e3
  refine Hx ?_; refine Dx 19 rfl rfl rfl rfl ?_; refine Au Ac ?_; refine Ai (.c rfl .nil) ?_
  exact ⟨J3, L, hle2, Ba, o4, k4, o5, k5, rfl, he2, rfl⟩
 intro c1
 try simp only [nb] at c1
 refine Ak (Ar (Se rfl ?_)); refine A7 rfl .free rfl ?_; refine Bo rfl rfl rfl rfl .free ?_; refine Aa ?_; refine Ai (.c rfl .nil) ?_
 have e1 : e.inL i l = l ∧ e.inM i (ts.getD 0 .i) m = m := by
  cases e with
  | lt x a b => exact ⟨if_neg fun hi => by rcases c0 with h | h; exact h rfl; omega, if_neg fun hi => by rcases c0 with h | h; exact h rfl; omega⟩
  | fn f x s t b => exact absurd rfl c1
  | _ => exact ⟨rfl, rfl⟩
 exact ⟨I, L, .refl _, Ba, oa, c, ob, c', by rw [e1.1, e1.2]; rfl, by rw [e1.1, e1.2]; exact he, rfl⟩
def JO (r : Option Ty) (L : Bs) : C8 := fun v I' L' => ∃ u cs ok, v = .tuple #[.agg cs.toArray, .bool ok] ∧ Rep I' u cs ∧ L = L' ∧ match r with | some t => ok = true ∧ u = t.tree | none => ok = false
theorem Ty.tree_eq {a b : Ty} : a.tree = b.tree ↔ a = b := ⟨Ty.tree_inj, fun h => by rw [h]⟩
theorem Ng (I : Heap) : Rep I Wu [.string (str []), .slice none 0 0] := .ofAtom (by simp [A9])
theorem Mr (I : Heap) : Rep I Ty.i.tree [.string (str [105]), .slice none 0 0] := .ofAtom (by simp [A9])
theorem Ty.is_fn {t : Ty} : t.tree.is [62] 3 = true ↔ ∃ a b, t = .fn a b := by
 cases t with
 | i => simp [Ty.tree, Tree.is, Tree.parts]
 | fn a b => simp [Ty.tree, Tree.is, Tree.parts, Tree.head, Tree.atom]
 | pr a b => simp [Ty.tree, Tree.is, Tree.parts, Tree.head, Tree.atom]
theorem Ty.is_pr {t : Ty} : t.tree.is [42] 3 = true ↔ ∃ a b, t = .pr a b := by
 cases t with
 | i => simp [Ty.tree, Tree.is, Tree.parts]
 | fn a b => simp [Ty.tree, Tree.is, Tree.parts, Tree.head, Tree.atom]
 | pr a b => simp [Ty.tree, Tree.is, Tree.parts, Tree.head, Tree.atom]
theorem Wp {p : Prop} [Decidable p] {b : Bool} {t : Ty} (hb : b = decide p) : match (if p then some t else none) with | some t' => b = true ∧ t.tree = t'.tree | none => b = false := by
 subst hb
 by_cases h : p <;> simp [h]
theorem Ael {l : List Av} {m : List Ty} {s : Av} {ok : Bool} {t : Tree} (hlen : l.length = m.length) (hok : ok = (Cu l s).isSome) (hi : ∀ i, Cu l s = some i → (m.map Ty.tree)[i]? = some t) :
  match Fv l m s with | some t' => ok = true ∧ t = t'.tree | none => ok = false := by
 unfold Fv
 cases h : Cu l s with
 | none => rw [h] at hok; exact hok
 | some i =>
  have h1 := (Lj (show G8 l s l.length = some i from h)).1
  have h2 := hi i h
  rw [h] at hok
  have h3 : i < m.length := by omega
  simp [h3] at h2
  simp [h3, hok, h2]
theorem Hk {I : Heap} {a b : Ty} {cs ds : List Value} (h : Rep I a.tree cs) (h' : Rep I b.tree ds) (L : Bs) : Fun Tryz.prog 131 [.agg cs.toArray, .agg ds.toArray] I L (Er (.bool (decide (a = b))) I L) := by
 have := Qg h h' L
 rwa [show decide (a.tree = b.tree) = decide (a = b) from by simp [Ty.tree_eq]] at this

theorem Uj {I : Heap} {l : List Av} {m : List Ty} {oa ob : Option Addr} {c c' : Nat} (he : EnvAt I l m oa c ob c') {e : Ex} {cs : List Value} (h : Rep I e.tree cs) (hok : e.ok = true)
  {oh : Option Addr} {ts : List Ty} {ch : Nat} {L : Bs} (hh : Have I L oh ts) (hts : ts.length = (Cx e.tree).length) (hfn : ∀ f x s t b, e = .fn f x s t b → (Ty.fn s t).size ≤ 16) :
  Fun Tryz.prog 110 [.agg [.slice oa l.length c, .slice ob (m.map Ty.tree).length c'].toArray, .agg cs.toArray, .slice oh ts.length ch] I L (JO (e.raw ts l m) L) := by
 obtain ⟨oc, cc, oaf, cf, rfl, hf⟩ := h.at'
 have ha := hf.alen
 have hhn := hh.nil
 have hle0 : HLe I I := .refl _
 refine Ao Af ?_; refine Se rfl ?_; refine Cj rfl rfl .free rfl ?_; intro b3; refine Cj rfl rfl .free rfl ?_; intro b4; refine Az .free rfl ?_; intro b6; refine Oa rfl (Aa (Se rfl ?_)); refine Ca rfl (Rf [105] Ad _ _) ?_; rintro _ _ _ _ ⟨rfl, rfl, rfl⟩; refine Az .free rfl ?_; intro b8; refine Bo rfl rfl rfl rfl .free ?_; refine Aa (Ag (Se rfl ?_)); refine A7 rfl .free rfl ?_; refine Ca rfl (Bq hf.rep _) ?_; rintro _ _ _ _ ⟨rfl, rfl, rfl⟩; refine Aa (Aq (Se rfl (Od rfl rfl rfl (Oa rfl (Aa ?_))))); refine Aw rfl ?_ ?_
 ·intro c0
  try simp only [nb] at c0
  have hb := Ex.of_nil c0
  refine Ag (Se rfl (Oh rfl ?_)); refine A8 rfl .free rfl ?_; refine Ca rfl (Il e.tree.atom ha _ _) ?_; rintro _ _ _ _ ⟨rfl, rfl, rfl⟩; refine Aa ?_; refine Aw rfl ?_ ?_
  ·intro c1
   try simp only [nb] at c1
   refine Se rfl ?_; refine A7 rfl .free rfl ?_; refine Oh rfl ?_; refine A8 rfl .free rfl ?_; refine Ca rfl (X0 he.names (he.types.form [] Ad) (by simp [he.len]) e.tree.atom _) ?_; rintro _ _ _ _ ⟨t, cs1, ok, rfl, rfl, rfl, hrt, hok1, hi1⟩; obtain ⟨o1, k1, _, rfl, -⟩ := hrt.open; refine Oe rfl rfl (Oe rfl rfl ?_); refine Bo rfl rfl rfl rfl .free ?_; refine Oa rfl (Aa ?_); refine Ai (.c rfl (.tmp rfl .nil)) ?_; refine ⟨I, L, .refl _, Ba, t, _, ok, rfl, hrt, rfl, ?_⟩
   cases e with
   | num s => have h1 := F9 (show B9 s = true from c1); rw [show Cm s = true from hok] at h1; cases h1
   | name s => exact Ael he.len hok1 hi1
   | _ => cases hb
  intro c1
  try simp only [nb] at c1
  refine Ak (Se rfl ?_); refine A7 rfl .free rfl ?_; refine Bo rfl rfl rfl rfl .free ?_; refine Oa rfl (Aa ?_); refine Ai (.c rfl (.tmp rfl .nil)) ?_; refine ⟨I, L, .refl _, Ba, Ty.i.tree, _, true, rfl, Mr _, rfl, ?_⟩
  cases e with
  | num s => exact ⟨rfl, rfl⟩
  | name s => have h1 := c1.symm.trans (show B9 s = true from hok); cases h1
  | _ => cases hb
 intro c0
 try simp only [nb] at c0
 refine Ag (Se rfl (Od rfl rfl rfl (Oa rfl (Aa ?_)))); refine Aw rfl ?_ ?_
 ·intro c2
  try simp only [nb] at c2
  obtain ⟨a, b, rfl⟩ := Ex.of_bin (o := .add) c2; obtain ⟨s, t, rfl⟩ := S9 (hts.trans (by rw [Gx]; rfl)); obtain ⟨o0, k0, r0, d0⟩ := hh.rep 0 Af; obtain ⟨o1, k1, r1, d1⟩ := hh.rep 1 Af
  simp only [List.getElem_cons_zero, List.getElem_cons_succ] at r0 r1 d0 d1
  refine Ak ?_
  first | refine St rfl (by first | assumption | omega) ?_ | refine By Aj ?_
  refine Ag ?_; refine Dj 15 rfl rfl ?_; refine Dt 0 [13] rfl (Ck rfl) ?_; refine Da 1 rfl (Al rfl) ?_
  first | refine Da 2 rfl (Bl rfl rfl 0 rfl) ?_ | refine Da 2 rfl (Bm rfl rfl 0 rfl) ?_
  refine Dt 3 [5, 6, 11, 13] rfl (Br rfl) ?_; refine Dt 4 [5, 6, 11, 13] rfl (Ck rfl) ?_; refine Dc 5 rfl rfl (Hk r0 (Mr _) _) ?_; rintro _ _ _ _ ⟨rfl, rfl, rfl⟩; refine Hx ?_; refine Da 6 rfl (Al rfl) ?_
  apply Ox 34 40 rfl
  ·intro g10_7 hk
   try simp only [nb] at g10_7
   refine Dm 7 rfl (Al rfl) ?_
   first | refine Dm 8 rfl (Bl rfl rfl 1 rfl) ?_ | refine Dm 8 rfl (Bm rfl rfl 1 rfl) ?_
   refine E8 9 [11, 13] rfl Ac rfl As (Br rfl) (.met rfl rfl) rfl ?_; refine E8 10 [11, 13] rfl Ac rfl As (Ck rfl) (.met rfl rfl) rfl ?_; refine G6 11 rfl Ac rfl rfl (.met rfl rfl) rfl (Hk r1 (Mr _) _) ?_; rintro _ _ _ _ ⟨rfl, rfl, rfl⟩; refine Hx ?_; refine Da 12 rfl (Dw rfl rfl) ?_
   exact Gl 5 rfl rfl hk
  ·intro _ hk; refine Ds 7 rfl rfl rfl ?_; refine Ds 8 rfl rfl rfl ?_; refine Ds 9 rfl rfl rfl ?_; refine Ds 10 rfl rfl rfl ?_; refine Ds 11 rfl rfl rfl ?_; refine Da 12 rfl (Dp rfl rfl) ?_
   exact Gl 5 rfl rfl hk
  refine Dx 13 rfl rfl rfl rfl ?_; refine Db 14 rfl (Ay rfl) ?_; refine Au Ac ?_; refine Ai (.c rfl (.tmp rfl .nil)) ?_
  exact ⟨I, L, .refl _, Ba, Ty.i.tree, _, _, rfl, Mr _, rfl, Wp (p := s = .i ∧ t = .i) Af⟩
 intro c2
 try simp only [nb] at c2
 refine Se rfl (Od rfl rfl rfl (Oa rfl (Aa ?_))); refine Aw rfl ?_ ?_
 ·intro c3
  try simp only [nb] at c3
  obtain ⟨a, b, rfl⟩ := Ex.of_bin (o := .sub) c3; obtain ⟨s, t, rfl⟩ := S9 (hts.trans (by rw [Gx]; rfl)); obtain ⟨o0, k0, r0, d0⟩ := hh.rep 0 Af; obtain ⟨o1, k1, r1, d1⟩ := hh.rep 1 Af
  simp only [List.getElem_cons_zero, List.getElem_cons_succ] at r0 r1 d0 d1
  refine Ak ?_
  first | refine St rfl (by first | assumption | omega) ?_ | refine By Aj ?_
  refine Ag ?_; refine Dj 15 rfl rfl ?_; refine Dt 0 [13] rfl (Ck rfl) ?_; refine Da 1 rfl (Al rfl) ?_
  first | refine Da 2 rfl (Bl rfl rfl 0 rfl) ?_ | refine Da 2 rfl (Bm rfl rfl 0 rfl) ?_
  refine Dt 3 [5, 6, 11, 13] rfl (Br rfl) ?_; refine Dt 4 [5, 6, 11, 13] rfl (Ck rfl) ?_; refine Dc 5 rfl rfl (Hk r0 (Mr _) _) ?_; rintro _ _ _ _ ⟨rfl, rfl, rfl⟩; refine Hx ?_; refine Da 6 rfl (Al rfl) ?_
  apply Ox 34 40 rfl
  ·intro g10_7 hk
   try simp only [nb] at g10_7
   refine Dm 7 rfl (Al rfl) ?_
   first | refine Dm 8 rfl (Bl rfl rfl 1 rfl) ?_ | refine Dm 8 rfl (Bm rfl rfl 1 rfl) ?_
   refine E8 9 [11, 13] rfl Ac rfl As (Br rfl) (.met rfl rfl) rfl ?_; refine E8 10 [11, 13] rfl Ac rfl As (Ck rfl) (.met rfl rfl) rfl ?_; refine G6 11 rfl Ac rfl rfl (.met rfl rfl) rfl (Hk r1 (Mr _) _) ?_; rintro _ _ _ _ ⟨rfl, rfl, rfl⟩; refine Hx ?_; refine Da 12 rfl (Dw rfl rfl) ?_
   exact Gl 5 rfl rfl hk
  ·intro _ hk; refine Ds 7 rfl rfl rfl ?_; refine Ds 8 rfl rfl rfl ?_; refine Ds 9 rfl rfl rfl ?_; refine Ds 10 rfl rfl rfl ?_; refine Ds 11 rfl rfl rfl ?_; refine Da 12 rfl (Dp rfl rfl) ?_
   exact Gl 5 rfl rfl hk
  refine Dx 13 rfl rfl rfl rfl ?_; refine Db 14 rfl (Ay rfl) ?_; refine Au Ac ?_; refine Ai (.c rfl (.tmp rfl .nil)) ?_
  exact ⟨I, L, .refl _, Ba, Ty.i.tree, _, _, rfl, Mr _, rfl, Wp (p := s = .i ∧ t = .i) Af⟩
 intro c3
 try simp only [nb] at c3
 refine Am rfl (Od rfl rfl rfl (Oa rfl (Aa ?_))); refine Aw rfl ?_ ?_
 ·intro c4
  try simp only [nb] at c4
  obtain ⟨a, b, rfl⟩ := Ex.of_bin (o := .mul) c4; obtain ⟨s, t, rfl⟩ := S9 (hts.trans (by rw [Gx]; rfl)); obtain ⟨o0, k0, r0, d0⟩ := hh.rep 0 Af; obtain ⟨o1, k1, r1, d1⟩ := hh.rep 1 Af
  simp only [List.getElem_cons_zero, List.getElem_cons_succ] at r0 r1 d0 d1
  refine Ag ?_; refine Dj 15 rfl rfl ?_; refine Dt 0 [13] rfl (Ck rfl) ?_; refine Da 1 rfl (Al rfl) ?_
  first | refine Da 2 rfl (Bl rfl rfl 0 rfl) ?_ | refine Da 2 rfl (Bm rfl rfl 0 rfl) ?_
  refine Dt 3 [5, 6, 11, 13] rfl (Br rfl) ?_; refine Dt 4 [5, 6, 11, 13] rfl (Ck rfl) ?_; refine Dc 5 rfl rfl (Hk r0 (Mr _) _) ?_; rintro _ _ _ _ ⟨rfl, rfl, rfl⟩; refine Hx ?_; refine Da 6 rfl (Al rfl) ?_
  apply Ox 34 40 rfl
  ·intro g10_7 hk
   try simp only [nb] at g10_7
   refine Dm 7 rfl (Al rfl) ?_
   first | refine Dm 8 rfl (Bl rfl rfl 1 rfl) ?_ | refine Dm 8 rfl (Bm rfl rfl 1 rfl) ?_
   refine E8 9 [11, 13] rfl Ac rfl As (Br rfl) (.met rfl rfl) rfl ?_; refine E8 10 [11, 13] rfl Ac rfl As (Ck rfl) (.met rfl rfl) rfl ?_; refine G6 11 rfl Ac rfl rfl (.met rfl rfl) rfl (Hk r1 (Mr _) _) ?_; rintro _ _ _ _ ⟨rfl, rfl, rfl⟩; refine Hx ?_; refine Da 12 rfl (Dw rfl rfl) ?_
   exact Gl 5 rfl rfl hk
  ·intro _ hk; refine Ds 7 rfl rfl rfl ?_; refine Ds 8 rfl rfl rfl ?_; refine Ds 9 rfl rfl rfl ?_; refine Ds 10 rfl rfl rfl ?_; refine Ds 11 rfl rfl rfl ?_; refine Da 12 rfl (Dp rfl rfl) ?_
   exact Gl 5 rfl rfl hk
  refine Dx 13 rfl rfl rfl rfl ?_; refine Db 14 rfl (Ay rfl) ?_; refine Au Ac ?_; refine Ai (.c rfl (.tmp rfl .nil)) ?_
  exact ⟨I, L, .refl _, Ba, Ty.i.tree, _, _, rfl, Mr _, rfl, Wp (p := s = .i ∧ t = .i) Af⟩
 intro c4
 try simp only [nb] at c4
 refine Se rfl (Od rfl rfl rfl (Oa rfl (Aa ?_))); refine Aw rfl ?_ ?_
 ·intro c5
  try simp only [nb] at c5
  obtain ⟨a, b, d, rfl⟩ := Ex.of_if c5; obtain ⟨s, t, u, rfl⟩ := Age hts; obtain ⟨o0, k0, r0, d0⟩ := hh.rep 0 Af; obtain ⟨o1, k1, r1, d1⟩ := hh.rep 1 Af; obtain ⟨o2, k2, r2, d2⟩ := hh.rep 2 Af
  simp only [List.getElem_cons_zero, List.getElem_cons_succ] at r0 r1 r2 d0 d1 d2
  refine Ag ?_; refine Dj 19 rfl rfl ?_; refine Da 0 rfl (Al rfl) ?_
  first | refine Da 1 rfl (Bl rfl rfl 1 rfl) ?_ | refine Da 1 rfl (Bm rfl rfl 1 rfl) ?_
  refine Dt 2 [17] rfl (Br rfl) ?_; refine Da 3 rfl (Al rfl) ?_
  first | refine Da 4 rfl (Bl rfl rfl 0 rfl) ?_ | refine Da 4 rfl (Bm rfl rfl 0 rfl) ?_
  refine Dt 5 [7, 8, 15, 17] rfl (Br rfl) ?_; refine Dt 6 [7, 8, 15, 17] rfl (Ck rfl) ?_; refine Dc 7 rfl rfl (Hk r0 (Mr _) _) ?_; rintro _ _ _ _ ⟨rfl, rfl, rfl⟩; refine Hx ?_; refine Da 8 rfl (Al rfl) ?_
  apply Ox 51 59 rfl
  ·intro g12_9 hk
   try simp only [nb] at g12_9
   refine Dm 9 rfl (Al rfl) ?_
   first | refine Dm 10 rfl (Bl rfl rfl 1 rfl) ?_ | refine Dm 10 rfl (Bm rfl rfl 1 rfl) ?_
   refine E8 11 [15, 17] rfl Ac rfl As (Br rfl) (.met rfl rfl) rfl ?_; refine Dm 12 rfl (Al rfl) ?_
   first | refine Dm 13 rfl (Bl rfl rfl 2 rfl) ?_ | refine Dm 13 rfl (Bm rfl rfl 2 rfl) ?_
   refine E8 14 [15, 17] rfl Ac rfl As (Br rfl) (.met rfl rfl) rfl ?_; refine G6 15 rfl Ac rfl rfl (.met rfl rfl) rfl (Hk r1 r2 _) ?_; rintro _ _ _ _ ⟨rfl, rfl, rfl⟩; refine Hx ?_; refine Da 16 rfl (Dw rfl rfl) ?_
   exact Gl 7 rfl rfl hk
  ·intro _ hk; refine Ds 9 rfl rfl rfl ?_; refine Ds 10 rfl rfl rfl ?_; refine Ds 11 rfl rfl rfl ?_; refine Ds 12 rfl rfl rfl ?_; refine Ds 13 rfl rfl rfl ?_; refine Ds 14 rfl rfl rfl ?_; refine Ds 15 rfl rfl rfl ?_; refine Da 16 rfl (Dp rfl rfl) ?_
   exact Gl 7 rfl rfl hk
  refine Dx 17 rfl rfl rfl rfl ?_; refine Db 18 rfl (Ay rfl) ?_; refine Au Ac ?_; refine Ai (.c rfl (.tmp rfl .nil)) ?_
  exact ⟨I, L, .refl _, Ba, t.tree, _, _, rfl, r1, rfl, Wp (p := s = .i ∧ t = u) Af⟩
 intro c5
 try simp only [nb] at c5
 refine Se rfl (Od rfl rfl rfl (Oa rfl (Aa ?_))); refine Aw rfl ?_ ?_
 ·intro c6
  try simp only [nb] at c6
  obtain ⟨x, a, b, rfl⟩ := Ex.of_let c6; obtain ⟨s, t, rfl⟩ := S9 hts; obtain ⟨o1, k1, r1, d1⟩ := hh.rep 1 Af
  simp only [List.getElem_cons_zero, List.getElem_cons_succ] at r1 d1
  refine Se rfl (Om rfl ?_)
  first | refine Bb rfl rfl 1 rfl .free rfl ?_ | refine Bc rfl rfl 1 rfl .free rfl ?_
  refine Ek rfl .free rfl ?_; refine Bo rfl rfl rfl rfl .free ?_; refine Oa rfl (Aa ?_); refine Ai (.c rfl (.tmp rfl .nil)) ?_
  exact ⟨I, L, .refl _, Ba, t.tree, _, _, rfl, r1, rfl, rfl, rfl⟩
 intro c6
 try simp only [nb] at c6
 refine Se rfl (Od rfl rfl rfl (Oa rfl (Aa ?_))); refine Aw rfl ?_ ?_
 ·intro c7
  try simp only [nb] at c7
  obtain ⟨f, x, s, t, b, rfl⟩ := Ex.of_fun c7; obtain ⟨u, rfl⟩ := Afa hts; obtain ⟨o0, k0, r0, d0⟩ := hh.rep 0 Af
  simp only [List.getElem_cons_zero, List.getElem_cons_succ] at r0 d0
  have hlen : (Ex.fn f x s t b).tree.parts.length = 6 := rfl
  refine Ag ?_; refine Dj 12 rfl rfl ?_; refine Dt 0 [10] rfl (Ck rfl) ?_; refine Da 2 rfl (Al rfl) ?_
  first | refine Da 3 rfl (Bl rfl rfl 0 rfl) ?_ | refine Da 3 rfl (Bm rfl rfl 0 rfl) ?_
  refine Dt 4 [9, 10] rfl (Br rfl) ?_; refine Da 5 rfl (Ap rfl) ?_; refine Dt 6 [7, 8, 9, 10] rfl (B6 rfl) ?_
  first | refine Da 7 rfl (Bl rfl rfl 4 rfl) ?_ | refine Da 7 rfl (Bm rfl rfl 4 rfl) ?_
  refine Dt 8 [9, 10] rfl (Br rfl) ?_; refine Dc 1 rfl rfl (Pk hf.rep _) ?_; rintro _ J1 _ e1 ⟨cs1, rfl, h1, rfl⟩; obtain ⟨o1, k1, _, rfl, -⟩ := h1.open
  have hf := hf.mono e1
  have r0 := r0.mono e1
  have d0 := N7 e1 d0
  refine Hx ?_; refine Dc 9 rfl rfl (Hk r0 (hf.as 4 t.tree Ab rfl) _) ?_; rintro _ _ _ _ ⟨rfl, rfl, rfl⟩; refine Hx ?_; refine Dx 10 rfl rfl rfl rfl ?_; refine Db 11 rfl (Ay rfl) ?_; refine Au Ac ?_; refine Ai (.c rfl (.tmp rfl .nil)) ?_
  exact ⟨J1, L, e1, Ba, (Ty.fn s t).tree, _, _, rfl, h1, rfl, Wp (p := u = t) Af⟩
 intro c7
 try simp only [nb] at c7
 refine Se rfl (Od rfl rfl rfl (Oa rfl (Aa ?_))); refine Aw rfl ?_ ?_
 ·intro c8
  try simp only [nb] at c8
  obtain ⟨a, b, rfl⟩ := Ex.of_bin (o := .call) c8; obtain ⟨s, t, rfl⟩ := S9 (hts.trans (by rw [Gx]; rfl)); obtain ⟨o0, k0, r0, d0⟩ := hh.rep 0 Af; obtain ⟨o1, k1, r1, d1⟩ := hh.rep 1 Af
  simp only [List.getElem_cons_zero, List.getElem_cons_succ] at r0 r1 d0 d1
  obtain ⟨o2, k2, of2, cf2, hc2, hf2⟩ := r0.at'
  simp only [List.cons.injEq, Value.slice.injEq, and_true, true_and] at hc2
  obtain ⟨rfl, rfl⟩ := hc2
  have hfn2 := hf2.nil
  refine Ag (Ag ?_); refine Dj 18 rfl rfl ?_; refine Da 0 rfl (Al rfl) ?_
  first | refine Da 1 rfl (Bl rfl rfl 0 rfl) ?_ | refine Da 1 rfl (Bm rfl rfl 0 rfl) ?_
  refine Dt 2 [18] rfl (Br rfl) ?_; refine Dc 3 rfl rfl (Le r0 [62] 3 _) ?_; rintro _ _ _ _ ⟨rfl, rfl, rfl⟩; refine Hx ?_; refine Da 4 rfl (Tw rfl) ?_; refine Da 5 rfl (Al rfl) ?_
  apply Ad1 84 96 rfl
  ·intro g18_6 hk
   try simp only [nb] at g18_6
   have hp2 : s.tree.parts.length = 3 := by obtain ⟨s1, s2, rfl⟩ := Ty.is_fn.1 g18_6; rfl
   refine Dm 6 rfl (Al rfl) ?_
   first | refine Dm 7 rfl (Bl rfl rfl 0 rfl) ?_ | refine Dm 7 rfl (Bm rfl rfl 0 rfl) ?_
   refine Dm 8 rfl (Bf rfl) ?_; refine E8 9 [18] rfl Ac rfl As (It rfl) (.met rfl rfl) rfl ?_
   first | refine Dm 10 rfl (Bl rfl rfl 1 rfl) ?_ | refine Dm 10 rfl (Bm rfl rfl 1 rfl) ?_
   refine E8 11 [18] rfl Ac rfl As (Br rfl) (.met rfl rfl) rfl ?_; refine Dm 12 rfl (Al rfl) ?_
   first | refine Dm 13 rfl (Bl rfl rfl 1 rfl) ?_ | refine Dm 13 rfl (Bm rfl rfl 1 rfl) ?_
   refine E8 14 [18] rfl Ac rfl As (Br rfl) (.met rfl rfl) rfl ?_; refine G6 15 rfl Ac rfl rfl (.met rfl rfl) rfl (Qg (hf2.rp 1 Ab) r1 _) ?_; rintro _ _ _ _ ⟨rfl, rfl, rfl⟩; refine Hx ?_; refine Dm 16 rfl (Tw rfl) ?_; refine Da 17 rfl (Dp rfl rfl) ?_
   exact Gl 11 rfl rfl hk
  ·intro _ hk; refine Ds 6 rfl rfl rfl ?_; refine Ds 7 rfl rfl rfl ?_; refine Ds 8 rfl rfl rfl ?_; refine Ds 9 rfl rfl rfl ?_; refine Ds 10 rfl rfl rfl ?_; refine Ds 11 rfl rfl rfl ?_; refine Ds 12 rfl rfl rfl ?_; refine Ds 13 rfl rfl rfl ?_; refine Ds 14 rfl rfl rfl ?_; refine Ds 15 rfl rfl rfl ?_; refine Ds 16 rfl rfl rfl ?_; refine Da 17 rfl (Dw rfl rfl) ?_
   exact Gl 11 rfl rfl hk
  refine Au Ac ?_; refine Aw rfl ?_ ?_
  ·intro c9
   try simp only [nb] at c9
   refine Se rfl ?_; refine Bz rfl rfl rfl .free rfl ?_; refine Bo rfl rfl rfl rfl .free ?_; refine Oa rfl (Aa ?_); refine Ai (.c rfl (.tmp rfl .nil)) ?_; refine ⟨I, L, .refl _, Ba, Wu, _, _, rfl, Ng _, rfl, ?_⟩
   have : (Ex.bin .call a b).raw [s, t] l m = none := by
    cases s with
    | fn s1 s2 =>
     have hs : ¬ s1 = t := by
      intro h
      rcases c9 with h1 | h2
      ·have := Ty.is_fn.2 ⟨s1, s2, rfl⟩; rw [h1] at this; cases this
      ·exact h2 (congrArg Ty.tree h)
     exact if_neg hs
    | _ => rfl
   rw [this]
  intro c9
  try simp only [nb] at c9
  obtain ⟨s1, s2, rfl⟩ := Ty.is_fn.1 c9.1
  have hp2 : (Ty.fn s1 s2).tree.parts.length = 3 := rfl
  refine Ak (Se rfl (Om rfl ?_))
  first | refine Bb rfl rfl 0 rfl .free rfl ?_ | refine Bc rfl rfl 0 rfl .free rfl ?_
  refine Bn rfl .free rfl ?_; refine Gd rfl .free rfl ?_
  first | refine Bb rfl rfl 2 rfl .free rfl ?_ | refine Bc rfl rfl 2 rfl .free rfl ?_
  refine Ek rfl .free rfl ?_; refine Bo rfl rfl rfl rfl .free ?_; refine Oa rfl (Aa ?_); refine Ai (.c rfl (.tmp rfl .nil)) ?_; refine ⟨I, L, .refl _, Ba, s2.tree, _, _, rfl, hf2.as 2 s2.tree Ab rfl, rfl, ?_⟩
  have : (Ex.bin .call a b).raw [.fn s1 s2, t] l m = some s2 := if_pos (Ty.tree_inj (show s1.tree = t.tree from c9.2))
  rw [this]; exact ⟨rfl, rfl⟩
 intro c8
 try simp only [nb] at c8
 refine Se rfl (Od rfl rfl rfl (Oa rfl (Aa ?_))); refine Aw rfl ?_ ?_
 ·intro c10
  try simp only [nb] at c10
  obtain ⟨a, b, rfl⟩ := Ex.of_bin (o := .pair) c10; obtain ⟨s, t, rfl⟩ := S9 (hts.trans (by rw [Gx]; rfl)); obtain ⟨o0, k0, r0, d0⟩ := hh.rep 0 Af; obtain ⟨o1, k1, r1, d1⟩ := hh.rep 1 Af
  simp only [List.getElem_cons_zero, List.getElem_cons_succ] at r0 r1 d0 d1
  refine Ag ?_; refine Dj 10 rfl rfl ?_; refine Da 0 rfl (Al rfl) ?_
  first | refine Da 1 rfl (Bl rfl rfl 0 rfl) ?_ | refine Da 1 rfl (Bm rfl rfl 0 rfl) ?_
  refine Dt 2 [8] rfl (Br rfl) ?_; refine Da 3 rfl (Al rfl) ?_
  first | refine Da 4 rfl (Bl rfl rfl 1 rfl) ?_ | refine Da 4 rfl (Bm rfl rfl 1 rfl) ?_
  refine Dt 5 [8] rfl (Br rfl) ?_; refine Fn 6 rfl Ac rfl rfl rfl Ae Ae Ae Ad Ad Ae .free rfl (.inr As) ?_; intro b112; refine Ed ?_; intro hz
  have hfs := Rl (c := 2) (b := b112) (RepL.two r0 r1) hz Af Eh
  refine Dc 7 rfl rfl (V6 [42] Ad hfs Eh _) ?_; rintro _ J2 _ e2 ⟨cs2, rfl, h2, rfl⟩
  have e3 := hz.trans e2
  obtain ⟨o2, k2, _, rfl, -⟩ := h2.open; refine Hx ?_; refine Dx 8 rfl rfl rfl rfl ?_; refine Db 9 rfl (Ay rfl) ?_; refine Au Ac ?_; refine Ai (.c rfl (.tmp rfl .nil)) ?_
  exact ⟨J2, L, e3, Ba, (Ty.pr s t).tree, _, _, rfl, h2, rfl, rfl, rfl⟩
 intro c10
 try simp only [nb] at c10
 obtain ⟨o, a, rfl⟩ : ∃ o a, e = .un o a := by
  rcases Ex.of_other c0 c6 c5 c7 with ⟨o, a, b, rfl⟩ | h
  ·cases o
   ·exact absurd rfl c2
   ·exact absurd rfl c3
   ·exact absurd rfl c4
   ·exact absurd rfl c8
   ·exact absurd rfl c10
  ·exact h
 obtain ⟨s, rfl⟩ := Afa (hts.trans (by rw [Ku]; rfl)); obtain ⟨o0, k0, r0, d0⟩ := hh.rep 0 Af
 simp only [List.getElem_cons_zero] at r0 d0
 obtain ⟨o2, k2, of2, cf2, hc2, hf2⟩ := r0.at'
 simp only [List.cons.injEq, Value.slice.injEq, and_true, true_and] at hc2
 obtain ⟨rfl, rfl⟩ := hc2
 have hfn2 := hf2.nil
 refine Ak (Ar (Ag (Se rfl (Om rfl ?_))))
 first | refine Bb rfl rfl 0 rfl .free rfl ?_ | refine Bc rfl rfl 0 rfl .free rfl ?_
 refine Ek rfl .free rfl ?_; refine Ca rfl (Le r0 [42] 3 _) ?_; rintro _ _ _ _ ⟨rfl, rfl, rfl⟩; refine C0 rfl .free rfl ?_; refine Aa ?_; refine Aw rfl ?_ ?_
 ·intro c11
  try simp only [nb] at c11
  refine Se rfl ?_; refine Bz rfl rfl rfl .free rfl ?_; refine Bo rfl rfl rfl rfl .free ?_; refine Oa rfl (Aa ?_); refine Ai (.c rfl (.tmp rfl .nil)) ?_; refine ⟨I, L, .refl _, Ba, Wu, _, _, rfl, Ng _, rfl, ?_⟩
  have : (Ex.un o a).raw [s] l m = none := by
   cases s with
   | pr s1 s2 => have := Ty.is_pr.2 ⟨s1, s2, rfl⟩; rw [c11] at this; cases this
   | _ => cases o <;> rfl
  rw [this]
 intro c11
 try simp only [nb] at c11
 obtain ⟨s1, s2, rfl⟩ := Ty.is_pr.1 c11
 have hp2 : (Ty.pr s1 s2).tree.parts.length = 3 := rfl
 refine Ak (Ag (Se rfl ?_)); refine A7 rfl .free rfl ?_; refine Ca rfl (Bq hf.rep _) ?_; rintro _ _ _ _ ⟨rfl, rfl, rfl⟩; refine Od rfl rfl rfl (Aa ?_); refine Aw rfl ?_ ?_
 ·intro c12
  try simp only [nb] at c12
  refine Se rfl (Om rfl ?_)
  first | refine Bb rfl rfl 0 rfl .free rfl ?_ | refine Bc rfl rfl 0 rfl .free rfl ?_
  refine Bn rfl .free rfl ?_; refine Gd rfl .free rfl ?_
  first | refine Bb rfl rfl 1 rfl .free rfl ?_ | refine Bc rfl rfl 1 rfl .free rfl ?_
  refine Ek rfl .free rfl ?_; refine Bo rfl rfl rfl rfl .free ?_; refine Oa rfl (Aa ?_); refine Ai (.c rfl (.tmp rfl .nil)) ?_; refine ⟨I, L, .refl _, Ba, s1.tree, _, _, rfl, hf2.as 1 s1.tree Ab rfl, rfl, ?_⟩; obtain rfl : o = .fst := by cases o; rfl; exact absurd (show F0 = Fz from c12) Ad
  exact ⟨rfl, rfl⟩
 intro c12
 try simp only [nb] at c12
 refine Ak (Se rfl (Om rfl ?_))
 first | refine Bb rfl rfl 0 rfl .free rfl ?_ | refine Bc rfl rfl 0 rfl .free rfl ?_
 refine Bn rfl .free rfl ?_; refine Gd rfl .free rfl ?_
 first | refine Bb rfl rfl 2 rfl .free rfl ?_ | refine Bc rfl rfl 2 rfl .free rfl ?_
 refine Ek rfl .free rfl ?_; refine Bo rfl rfl rfl rfl .free ?_; refine Oa rfl (Aa ?_); refine Ai (.c rfl (.tmp rfl .nil)) ?_; refine ⟨I, L, .refl _, Ba, s2.tree, _, _, rfl, hf2.as 2 s2.tree Ab rfl, rfl, ?_⟩; obtain rfl : o = .snd := by cases o; exact absurd rfl c12; rfl
 exact ⟨rfl, rfl⟩
end Go.Proofs.YtmfagaajiakgoaaGreatDoor
