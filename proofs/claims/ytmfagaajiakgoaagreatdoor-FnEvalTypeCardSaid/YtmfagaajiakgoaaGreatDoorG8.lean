/- Environments of types, by the program: one name more, the environment of a part. No conditions. -/
import Derived.Test.YtmfagaajiakgoaaGreatDoorG7

namespace Go.Proofs.YtmfagaajiakgoaaGreatDoor
set_option maxRecDepth 100000
set_option linter.unusedVariables false
set_option linter.unusedSimpArgs false

section rules
variable {P : Program} {f : FuncId} {n : Nat} {I₀ : Heap} {Q : C3} {k : List Item} {E : Hw} {I : Heap} {L : Bh}
variable {ops : Array Oper} {S : World → Prop} {fuel : Nat} {listed : Array Bool}
theorem S6 {I : Heap} {e : TypeId} {ts : List Tree} {vs : List Value} {B : Kx} {m c : Nat} (hl : RepL I ts vs) (hB : Ep 2 m c vs B) (hm : m = ts.length) (hn : ts.length ≤ Bb) :
  (B = none ∧ ts = []) ∨ ∃ b sp, B = some (b, sp) ∧ Cb e vs B = [(b, .cells (vs ++ sp).toArray e (0, 0))] ∧ ts.length ≤ c := by
 cases B with
 | none =>
  obtain ⟨h1, h2, h3⟩ := hB
  exact .inl ⟨rfl, List.length_eq_zero_iff.1 Aa⟩
 | some p => exact .inr ⟨p.1, p.2, rfl, rfl, by have := hB.2.1; omega⟩
theorem Rj (I : Heap) : Forms I none [] 0 := ⟨⟨[], .nil, by simp⟩, fun _ => rfl, by simp, by simp [Bb]⟩
theorem Sp {todo : List Item} {e : TypeId} {ts : List Tree} {vs : List Value} {B : Kx} {m c : Nat} (hl : RepL I ts vs) (hB : Ep 2 m c vs B) (hm : m = ts.length) (hn : ts.length ≤ Bb)
  (h : ∀ I' oa c', HLe I I' → B8 m c B = .slice oa ts.length c' → Forms I' oa ts c' → RunS P f n I₀ Q todo E I' L) : RunS P f n I₀ Q todo E I (Cb e vs B ++ L) := by
 rcases S6 (e := e) hl hB hm hn with ⟨rfl, rfl⟩ | ⟨b, sp, rfl, _, hc⟩
 ·exact h I none 0 (.refl _) rfl (Rj _)
 ·exact Bv fun hle => h _ (some ⟨b, 0, none⟩) c hle (by rw [← hm]; rfl) (Pf hl hle hc hn)
theorem Eo {e : TypeId} {ts : List Tree} {vs : List Value} {B : Kx} {m c : Nat} (hl : RepL I ts vs) (hB : Ep 2 m c vs B) (hm : m = ts.length) (hn : ts.length ≤ Bb)
  (h : ∀ I' oa c', HLe I I' → B8 m c B = .slice oa ts.length c' → Forms I' oa ts c' → Cq P f n I₀ Q ops S fuel listed k E I' L) : Cq P f n I₀ Q ops S fuel listed k E I (Cb e vs B ++ L) := by
 rcases S6 (e := e) hl hB hm hn with ⟨rfl, rfl⟩ | ⟨b, sp, rfl, _, hc⟩
 ·exact h I none 0 (.refl _) rfl (Rj _)
 ·exact D2 fun hle => h _ (some ⟨b, 0, none⟩) c hle (by rw [← hm]; rfl) (Pf hl hle hc hn)
end rules

theorem Gt {I : Heap} {oa : Option Addr} {l : List As} {c : Nat} (h : Strs I oa l c) (L : Bh) :
  Fun Tryz.prog 186 [.slice oa l.length c] I L (fun v I' L' => ∃ B c', v = B8 l.length c' B ∧ Ep 1 l.length c' (l.map sv) B ∧ I = I' ∧ L' = Cb 9 (l.map sv) B ++ L) := by
 have hlen := h.len
 unfold Bb at hlen
 refine Al Af ?_; refine Se rfl (Oa rfl (Ab (Ah (Se rfl (Om rfl ?_))))); refine Ib rfl rfl .free rfl ?_; refine Ab ?_; refine Av rfl ?_ ?_
 ·intro c0
  try simp only [nb] at c0
  have hnil : l = [] := h.nil Ey
  refine Se rfl (Oa rfl (Ab (Ai (.tmp rfl .nil) ?_)))
  exact ⟨I, L, .refl _, fun _ h => h, none, 0, by rw [hnil]; rfl, by rw [hnil]; exact ⟨rfl, rfl, rfl⟩, rfl, by simp [Cb]⟩
 intro c0
 try simp only [nb] at c0
 refine Aj (Se rfl ?_); refine D9 .free rfl ?_; intro b5; refine Om rfl ?_; refine Iv (B := some (b5, [])) (xs := []) (ys := l.map sv) (m := 0) (c := 0) (L₀ := L) A4 Ac rfl rfl ⟨rfl, Nat.le_refl _, rfl⟩ (fun _ h => h) Af h.reads h.none (D4 l) Ad Aa Ad .free rfl ?_; intro B1 c1 hB1; refine Oa rfl (Ab (Ai (.tmp rfl .nil) ?_))
 exact ⟨I, _, .refl _, fun _ h => h, B1, c1, by simp [C2], by simpa using hB1, rfl, rfl⟩
theorem D6 {I : Heap} {oa : Option Addr} {ts : List Tree} {c : Nat} (h : Forms I oa ts c) (L : Bh) :
  Fun Tryz.prog 114 [.slice oa ts.length c] I L (fun v I' L' => ∃ vs B c', RepL I ts vs ∧ v = B8 ts.length c' B ∧ Ep 2 ts.length c' vs B ∧ I = I' ∧ L' = Cb 49 vs B ++ L) := by
 obtain ⟨⟨vs, hl, hst⟩, hn, hc, hlen⟩ := h
 unfold Bb at hlen
 have hvl := hl.length
 refine Al Af ?_; refine Se rfl (Oa rfl (Ab (Ah (Se rfl (Om rfl ?_))))); refine Ib rfl rfl .free rfl ?_; refine Ab ?_; refine Av rfl ?_ ?_
 ·intro c0
  try simp only [nb] at c0
  have hnil : ts = [] := hn Ey
  subst hnil; refine Se rfl (Oa rfl (Ab (Ai (.tmp rfl .nil) ?_)))
  exact ⟨I, L, .refl _, fun _ h => h, [], none, 0, .nil, rfl, ⟨rfl, rfl, rfl⟩, rfl, rfl⟩
 intro c0
 try simp only [nb] at c0
 refine Aj (Se rfl ?_); refine D9 .free rfl ?_; intro b5; refine Om rfl ?_; refine Iv (B := some (b5, [])) (xs := []) (ys := vs) (m := 0) (c := 0) (L₀ := L) A4 Ac rfl rfl ⟨rfl, Nat.le_refl _, rfl⟩ (fun _ h => h) Aa (fun a ha => (hst a ha).reads) (fun ha => by rw [hn ha] at hvl; exact List.length_eq_zero_iff.1 (by simpa using hvl)) hl.plain Ad Aa Ad .free rfl ?_; intro B1 c1 hB1; refine Oa rfl (Ab (Ai (.tmp rfl .nil) ?_))
 exact ⟨I, _, .refl _, fun _ h => h, vs, B1, c1, hl, by simp [C2], by simpa using hB1, rfl, rfl⟩

structure EnvAt (I : Heap) (l : List As) (m : List Ty) (oa : Option Addr) (c : Nat) (ob : Option Addr) (c' : Nat) : Prop where
 names : Strs I oa l c
 types : Forms I ob (m.map Ty.tree) c'
 len : l.length = m.length
 small : smallL m
theorem EnvAt.mono {I I' : Heap} (hle : HLe I I') {l : List As} {m : List Ty} {oa : Option Addr} {c : Nat} {ob : Option Addr} {c' : Nat} (h : EnvAt I l m oa c ob c') : EnvAt I' l m oa c ob c' :=
 ⟨h.names.mono hle, h.types.mono hle, h.len, h.small⟩
def RV (l : List As) (m : List Ty) (L : Bh) : C3 := fun v I' L' => ∃ oa c ob c', v = .agg [.slice oa (List.length l) c, .slice ob (List.map Ty.tree m).length c'].toArray ∧ EnvAt I' l m oa c ob c' ∧ L = L'
theorem Nj {I : Heap} {l : List As} {m : List Ty} {oa ob : Option Addr} {c c' : Nat} (h : EnvAt I l m oa c ob c') (x : As) (hx : x.length ≤ Bb) {t : Ty} {cs : List Value} (ht : Rep I t.tree cs) (hts : t.size ≤ 16) (hroom : l.length + 1 ≤ Bb) (L : Bh) :
  Fun Tryz.prog 153 [.agg [.slice oa l.length c, .slice ob (m.map Ty.tree).length c'].toArray, .string (str x), .agg cs.toArray] I L (RV (l ++ [x]) (m ++ [t]) L) := by
 obtain ⟨ot, ct, _, rfl, -⟩ := ht.open
 have hle0 : HLe I I := .refl _
 have hlm := h.len
 unfold Bb at hroom
 refine Al Af ?_; refine Se rfl ?_; refine Cc rfl rfl .free rfl ?_; intro b3; refine Cc rfl rfl .free rfl ?_; intro b5; refine A3 .free rfl ?_; intro b6; refine Ab (Ah ?_); refine Eb 14 rfl rfl ?_; refine Da 0 rfl (Ap rfl) ?_; refine Dt 1 [13] rfl (Cn rfl) ?_; refine Da 3 rfl (Ak rfl) ?_; refine Da 6 rfl (Ap rfl) ?_; refine Dt 7 [13] rfl (Cn rfl) ?_; refine Dt 9 [13] rfl (Co rfl) ?_; refine Ue 2 4 10 Ae ?_ ?_ ?_
 ·skip
  refine Ft 2 rfl rfl rfl .free rfl (Gt h.names _) ?_; rintro _ _ _ _ ⟨B1, c1, rfl, hB1, rfl, rfl⟩; refine Hx ?_; refine Fr 4 10 Ae ?_ ?_
  ·skip
   refine G5 4 rfl rfl rfl rfl Ac Ac Ac Ad Ad Ac .free rfl (.inr Ax) ?_; intro b11; refine Fr 5 10 Ae ?_ ?_
   ·skip
    refine Pl 5 (B := B1) (xs := l.map sv) (ys := [sv x]) (m := l.length) (c := c1) rfl rfl A4 Ac rfl rfl hB1 Dz Ac (fun a ha => by cases ha; exact Bg Dk Ac) Af Ac Ad Aa Ad .free rfl (fun _ => .inr Ax) ?_; intro B2 c2 hB2; rw [show l.map sv ++ [sv x] = (l ++ [x]).map sv by simp] at hB2 ⊢; refine C9 hB2 Af D0 I7 ?_; intro J1 o1 k1 e1 hbv1 hst1; refine E0 (t := 12) rfl hbv1 ?_
    have h := h.mono e1
    have ht := ht.mono e1
    refine Fr 8 10 Ae ?_ ?_
    ·skip
     refine Ft 8 rfl rfl rfl .free rfl (D6 h.types _) ?_; rintro _ _ _ _ ⟨vs, B3, c3, hl3, rfl, hB3, rfl, rfl⟩; refine Hx ?_; refine E8 10 rfl Ae rfl rfl rfl Ac Ac Ac Ad Ad Ac .free rfl (.inr Ax) ?_; intro b17; refine B6 11 (B := B3) (xs := vs) (ys := [.string (str t.tree.atom), .slice ot t.tree.parts.length ct]) (m := (m.map Ty.tree).length) (c := c3) rfl Ae rfl A4 Ac rfl rfl hB3 Dz Ac (fun a ha => by cases ha; exact Bg Dk Ac) Af Ac Ad Ci Ad .free rfl (fun _ => .inr Ax) ?_; intro B4 c4 hB4; refine Eo (ts := (m ++ [t]).map Ty.tree) Gx hB4 Af D0 ?_; intro J2 o2 k2 e2 hbv2 hst2
     have hle0 := e1.trans e2
     refine E0 (t := 18) rfl hbv2 ?_; refine Da 12 rfl (Em rfl rfl rfl) ?_; refine Dx 13 rfl rfl rfl rfl ?_; refine A5 Ae ?_; refine Ai (.c rfl .nil) ?_
     exact ⟨J2, L, e1.trans e2, Bj, o1, k1, o2, k2, rfl, ⟨hst1.mono e2, hst2, by simp [hlm], h.small.add hts⟩, rfl⟩
    ·skip
     refine G5 10 rfl rfl rfl rfl Ac Ac Ac Ad Ad Ac .free rfl (.inr Ax) ?_; intro b17; refine Dc 8 rfl rfl (D6 h.types _) ?_; rintro _ _ _ _ ⟨vs, B3, c3, hl3, rfl, hB3, rfl, rfl⟩; refine Hx ?_; refine B6 11 (B := B3) (xs := vs) (ys := [.string (str t.tree.atom), .slice ot t.tree.parts.length ct]) (m := (m.map Ty.tree).length) (c := c3) rfl Ae rfl A4 Ac rfl rfl hB3 Dz Ac (fun a ha => by cases ha; exact Bg Dk Ac) Af Ac Ad Ci Ad .free rfl (fun _ => .inr Ax) ?_; intro B4 c4 hB4; refine Eo (ts := (m ++ [t]).map Ty.tree) Gx hB4 Af D0 ?_; intro J2 o2 k2 e2 hbv2 hst2
     have hle0 := e1.trans e2
     refine E0 (t := 18) rfl hbv2 ?_; refine Da 12 rfl (Em rfl rfl rfl) ?_; refine Dx 13 rfl rfl rfl rfl ?_; refine A5 Ae ?_; refine Ai (.c rfl .nil) ?_
     exact ⟨J2, L, e1.trans e2, Bj, o1, k1, o2, k2, rfl, ⟨hst1.mono e2, hst2, by simp [hlm], h.small.add hts⟩, rfl⟩
   ·skip
    refine G5 10 rfl rfl rfl rfl Ac Ac Ac Ad Ad Ac .free rfl (.inr Ax) ?_; intro b17; refine B6 5 (B := B1) (xs := l.map sv) (ys := [sv x]) (m := l.length) (c := c1) rfl Ae rfl A4 Ac rfl rfl hB1 Dz Ac (fun a ha => by cases ha; exact Bg Dk Ac) Af Ac Ad Aa Ad .free rfl (fun _ => .inr Ax) ?_; intro B2 c2 hB2; rw [show l.map sv ++ [sv x] = (l ++ [x]).map sv by simp] at hB2 ⊢; refine C9 hB2 Af D0 I7 ?_; intro J1 o1 k1 e1 hbv1 hst1; refine E0 (t := 12) rfl hbv1 ?_
    have h := h.mono e1
    have ht := ht.mono e1
    refine Dc 8 rfl rfl (D6 h.types _) ?_; rintro _ _ _ _ ⟨vs, B3, c3, hl3, rfl, hB3, rfl, rfl⟩; refine Hx ?_; refine B6 11 (B := B3) (xs := vs) (ys := [.string (str t.tree.atom), .slice ot t.tree.parts.length ct]) (m := (m.map Ty.tree).length) (c := c3) rfl Ae rfl A4 Ac rfl rfl hB3 Dz Ac (fun a ha => by cases ha; exact Bg Dk Ac) Af Ac Ad Ci Ad .free rfl (fun _ => .inr Ax) ?_; intro B4 c4 hB4; refine Eo (ts := (m ++ [t]).map Ty.tree) Gx hB4 Af D0 ?_; intro J2 o2 k2 e2 hbv2 hst2
    have hle0 := e1.trans e2
    refine E0 (t := 18) rfl hbv2 ?_; refine Da 12 rfl (Em rfl rfl rfl) ?_; refine Dx 13 rfl rfl rfl rfl ?_; refine A5 Ae ?_; refine Ai (.c rfl .nil) ?_
    exact ⟨J2, L, e1.trans e2, Bj, o1, k1, o2, k2, rfl, ⟨hst1.mono e2, hst2, by simp [hlm], h.small.add hts⟩, rfl⟩
  ·skip
   refine G5 10 rfl rfl rfl rfl Ac Ac Ac Ad Ad Ac .free rfl (.inr Ax) ?_; intro b17; refine E8 4 rfl Ae rfl rfl rfl Ac Ac Ac Ad Ad Ac .free rfl (.inr Ax) ?_; intro b11; refine B6 5 (B := B1) (xs := l.map sv) (ys := [sv x]) (m := l.length) (c := c1) rfl Ae rfl A4 Ac rfl rfl hB1 Dz Ac (fun a ha => by cases ha; exact Bg Dk Ac) Af Ac Ad Aa Ad .free rfl (fun _ => .inr Ax) ?_; intro B2 c2 hB2; rw [show l.map sv ++ [sv x] = (l ++ [x]).map sv by simp] at hB2 ⊢; refine C9 hB2 Af D0 I7 ?_; intro J1 o1 k1 e1 hbv1 hst1; refine E0 (t := 12) rfl hbv1 ?_
   have h := h.mono e1
   have ht := ht.mono e1
   refine Dc 8 rfl rfl (D6 h.types _) ?_; rintro _ _ _ _ ⟨vs, B3, c3, hl3, rfl, hB3, rfl, rfl⟩; refine Hx ?_; refine B6 11 (B := B3) (xs := vs) (ys := [.string (str t.tree.atom), .slice ot t.tree.parts.length ct]) (m := (m.map Ty.tree).length) (c := c3) rfl Ae rfl A4 Ac rfl rfl hB3 Dz Ac (fun a ha => by cases ha; exact Bg Dk Ac) Af Ac Ad Ci Ad .free rfl (fun _ => .inr Ax) ?_; intro B4 c4 hB4; refine Eo (ts := (m ++ [t]).map Ty.tree) Gx hB4 Af D0 ?_; intro J2 o2 k2 e2 hbv2 hst2
   have hle0 := e1.trans e2
   refine E0 (t := 18) rfl hbv2 ?_; refine Da 12 rfl (Em rfl rfl rfl) ?_; refine Dx 13 rfl rfl rfl rfl ?_; refine A5 Ae ?_; refine Ai (.c rfl .nil) ?_
   exact ⟨J2, L, e1.trans e2, Bj, o1, k1, o2, k2, rfl, ⟨hst1.mono e2, hst2, by simp [hlm], h.small.add hts⟩, rfl⟩
 ·skip
  refine G5 4 rfl rfl rfl rfl Ac Ac Ac Ad Ad Ac .free rfl (.inr Ax) ?_; intro b11; refine Fr 2 10 Ae ?_ ?_
  ·skip
   refine Ft 2 rfl rfl rfl .free rfl (Gt h.names _) ?_; rintro _ _ _ _ ⟨B1, c1, rfl, hB1, rfl, rfl⟩; refine Hx ?_; refine Fr 5 10 Ae ?_ ?_
   ·skip
    refine Pl 5 (B := B1) (xs := l.map sv) (ys := [sv x]) (m := l.length) (c := c1) rfl rfl A4 Ac rfl rfl hB1 Dz Ac (fun a ha => by cases ha; exact Bg Dk Ac) Af Ac Ad Aa Ad .free rfl (fun _ => .inr Ax) ?_; intro B2 c2 hB2; rw [show l.map sv ++ [sv x] = (l ++ [x]).map sv by simp] at hB2 ⊢; refine C9 hB2 Af D0 I7 ?_; intro J1 o1 k1 e1 hbv1 hst1; refine E0 (t := 12) rfl hbv1 ?_
    have h := h.mono e1
    have ht := ht.mono e1
    refine Fr 8 10 Ae ?_ ?_
    ·skip
     refine Ft 8 rfl rfl rfl .free rfl (D6 h.types _) ?_; rintro _ _ _ _ ⟨vs, B3, c3, hl3, rfl, hB3, rfl, rfl⟩; refine Hx ?_; refine E8 10 rfl Ae rfl rfl rfl Ac Ac Ac Ad Ad Ac .free rfl (.inr Ax) ?_; intro b17; refine B6 11 (B := B3) (xs := vs) (ys := [.string (str t.tree.atom), .slice ot t.tree.parts.length ct]) (m := (m.map Ty.tree).length) (c := c3) rfl Ae rfl A4 Ac rfl rfl hB3 Dz Ac (fun a ha => by cases ha; exact Bg Dk Ac) Af Ac Ad Ci Ad .free rfl (fun _ => .inr Ax) ?_; intro B4 c4 hB4; refine Eo (ts := (m ++ [t]).map Ty.tree) Gx hB4 Af D0 ?_; intro J2 o2 k2 e2 hbv2 hst2
     have hle0 := e1.trans e2
     refine E0 (t := 18) rfl hbv2 ?_; refine Da 12 rfl (Em rfl rfl rfl) ?_; refine Dx 13 rfl rfl rfl rfl ?_; refine A5 Ae ?_; refine Ai (.c rfl .nil) ?_
     exact ⟨J2, L, e1.trans e2, Bj, o1, k1, o2, k2, rfl, ⟨hst1.mono e2, hst2, by simp [hlm], h.small.add hts⟩, rfl⟩
    ·skip
     refine G5 10 rfl rfl rfl rfl Ac Ac Ac Ad Ad Ac .free rfl (.inr Ax) ?_; intro b17; refine Dc 8 rfl rfl (D6 h.types _) ?_; rintro _ _ _ _ ⟨vs, B3, c3, hl3, rfl, hB3, rfl, rfl⟩; refine Hx ?_; refine B6 11 (B := B3) (xs := vs) (ys := [.string (str t.tree.atom), .slice ot t.tree.parts.length ct]) (m := (m.map Ty.tree).length) (c := c3) rfl Ae rfl A4 Ac rfl rfl hB3 Dz Ac (fun a ha => by cases ha; exact Bg Dk Ac) Af Ac Ad Ci Ad .free rfl (fun _ => .inr Ax) ?_; intro B4 c4 hB4; refine Eo (ts := (m ++ [t]).map Ty.tree) Gx hB4 Af D0 ?_; intro J2 o2 k2 e2 hbv2 hst2
     have hle0 := e1.trans e2
     refine E0 (t := 18) rfl hbv2 ?_; refine Da 12 rfl (Em rfl rfl rfl) ?_; refine Dx 13 rfl rfl rfl rfl ?_; refine A5 Ae ?_; refine Ai (.c rfl .nil) ?_
     exact ⟨J2, L, e1.trans e2, Bj, o1, k1, o2, k2, rfl, ⟨hst1.mono e2, hst2, by simp [hlm], h.small.add hts⟩, rfl⟩
   ·skip
    refine G5 10 rfl rfl rfl rfl Ac Ac Ac Ad Ad Ac .free rfl (.inr Ax) ?_; intro b17; refine B6 5 (B := B1) (xs := l.map sv) (ys := [sv x]) (m := l.length) (c := c1) rfl Ae rfl A4 Ac rfl rfl hB1 Dz Ac (fun a ha => by cases ha; exact Bg Dk Ac) Af Ac Ad Aa Ad .free rfl (fun _ => .inr Ax) ?_; intro B2 c2 hB2; rw [show l.map sv ++ [sv x] = (l ++ [x]).map sv by simp] at hB2 ⊢; refine C9 hB2 Af D0 I7 ?_; intro J1 o1 k1 e1 hbv1 hst1; refine E0 (t := 12) rfl hbv1 ?_
    have h := h.mono e1
    have ht := ht.mono e1
    refine Dc 8 rfl rfl (D6 h.types _) ?_; rintro _ _ _ _ ⟨vs, B3, c3, hl3, rfl, hB3, rfl, rfl⟩; refine Hx ?_; refine B6 11 (B := B3) (xs := vs) (ys := [.string (str t.tree.atom), .slice ot t.tree.parts.length ct]) (m := (m.map Ty.tree).length) (c := c3) rfl Ae rfl A4 Ac rfl rfl hB3 Dz Ac (fun a ha => by cases ha; exact Bg Dk Ac) Af Ac Ad Ci Ad .free rfl (fun _ => .inr Ax) ?_; intro B4 c4 hB4; refine Eo (ts := (m ++ [t]).map Ty.tree) Gx hB4 Af D0 ?_; intro J2 o2 k2 e2 hbv2 hst2
    have hle0 := e1.trans e2
    refine E0 (t := 18) rfl hbv2 ?_; refine Da 12 rfl (Em rfl rfl rfl) ?_; refine Dx 13 rfl rfl rfl rfl ?_; refine A5 Ae ?_; refine Ai (.c rfl .nil) ?_
    exact ⟨J2, L, e1.trans e2, Bj, o1, k1, o2, k2, rfl, ⟨hst1.mono e2, hst2, by simp [hlm], h.small.add hts⟩, rfl⟩
  ·skip
   refine G5 10 rfl rfl rfl rfl Ac Ac Ac Ad Ad Ac .free rfl (.inr Ax) ?_; intro b17; refine Dc 2 rfl rfl (Gt h.names _) ?_; rintro _ _ _ _ ⟨B1, c1, rfl, hB1, rfl, rfl⟩; refine Hx ?_; refine B6 5 (B := B1) (xs := l.map sv) (ys := [sv x]) (m := l.length) (c := c1) rfl Ae rfl A4 Ac rfl rfl hB1 Dz Ac (fun a ha => by cases ha; exact Bg Dk Ac) Af Ac Ad Aa Ad .free rfl (fun _ => .inr Ax) ?_; intro B2 c2 hB2; rw [show l.map sv ++ [sv x] = (l ++ [x]).map sv by simp] at hB2 ⊢; refine C9 hB2 Af D0 I7 ?_; intro J1 o1 k1 e1 hbv1 hst1; refine E0 (t := 12) rfl hbv1 ?_
   have h := h.mono e1
   have ht := ht.mono e1
   refine Dc 8 rfl rfl (D6 h.types _) ?_; rintro _ _ _ _ ⟨vs, B3, c3, hl3, rfl, hB3, rfl, rfl⟩; refine Hx ?_; refine B6 11 (B := B3) (xs := vs) (ys := [.string (str t.tree.atom), .slice ot t.tree.parts.length ct]) (m := (m.map Ty.tree).length) (c := c3) rfl Ae rfl A4 Ac rfl rfl hB3 Dz Ac (fun a ha => by cases ha; exact Bg Dk Ac) Af Ac Ad Ci Ad .free rfl (fun _ => .inr Ax) ?_; intro B4 c4 hB4; refine Eo (ts := (m ++ [t]).map Ty.tree) Gx hB4 Af D0 ?_; intro J2 o2 k2 e2 hbv2 hst2
   have hle0 := e1.trans e2
   refine E0 (t := 18) rfl hbv2 ?_; refine Da 12 rfl (Em rfl rfl rfl) ?_; refine Dx 13 rfl rfl rfl rfl ?_; refine A5 Ae ?_; refine Ai (.c rfl .nil) ?_
   exact ⟨J2, L, e1.trans e2, Bj, o1, k1, o2, k2, rfl, ⟨hst1.mono e2, hst2, by simp [hlm], h.small.add hts⟩, rfl⟩
 ·skip
  refine G5 10 rfl rfl rfl rfl Ac Ac Ac Ad Ad Ac .free rfl (.inr Ax) ?_; intro b17; refine Fr 2 4 Ae ?_ ?_
  ·skip
   refine Ft 2 rfl rfl rfl .free rfl (Gt h.names _) ?_; rintro _ _ _ _ ⟨B1, c1, rfl, hB1, rfl, rfl⟩; refine Hx ?_; refine E8 4 rfl Ae rfl rfl rfl Ac Ac Ac Ad Ad Ac .free rfl (.inr Ax) ?_; intro b11; refine B6 5 (B := B1) (xs := l.map sv) (ys := [sv x]) (m := l.length) (c := c1) rfl Ae rfl A4 Ac rfl rfl hB1 Dz Ac (fun a ha => by cases ha; exact Bg Dk Ac) Af Ac Ad Aa Ad .free rfl (fun _ => .inr Ax) ?_; intro B2 c2 hB2; rw [show l.map sv ++ [sv x] = (l ++ [x]).map sv by simp] at hB2 ⊢; refine C9 hB2 Af D0 I7 ?_; intro J1 o1 k1 e1 hbv1 hst1; refine E0 (t := 12) rfl hbv1 ?_
   have h := h.mono e1
   have ht := ht.mono e1
   refine Dc 8 rfl rfl (D6 h.types _) ?_; rintro _ _ _ _ ⟨vs, B3, c3, hl3, rfl, hB3, rfl, rfl⟩; refine Hx ?_; refine B6 11 (B := B3) (xs := vs) (ys := [.string (str t.tree.atom), .slice ot t.tree.parts.length ct]) (m := (m.map Ty.tree).length) (c := c3) rfl Ae rfl A4 Ac rfl rfl hB3 Dz Ac (fun a ha => by cases ha; exact Bg Dk Ac) Af Ac Ad Ci Ad .free rfl (fun _ => .inr Ax) ?_; intro B4 c4 hB4; refine Eo (ts := (m ++ [t]).map Ty.tree) Gx hB4 Af D0 ?_; intro J2 o2 k2 e2 hbv2 hst2
   have hle0 := e1.trans e2
   refine E0 (t := 18) rfl hbv2 ?_; refine Da 12 rfl (Em rfl rfl rfl) ?_; refine Dx 13 rfl rfl rfl rfl ?_; refine A5 Ae ?_; refine Ai (.c rfl .nil) ?_
   exact ⟨J2, L, e1.trans e2, Bj, o1, k1, o2, k2, rfl, ⟨hst1.mono e2, hst2, by simp [hlm], h.small.add hts⟩, rfl⟩
  ·skip
   refine G5 4 rfl rfl rfl rfl Ac Ac Ac Ad Ad Ac .free rfl (.inr Ax) ?_; intro b11; refine Dc 2 rfl rfl (Gt h.names _) ?_; rintro _ _ _ _ ⟨B1, c1, rfl, hB1, rfl, rfl⟩; refine Hx ?_; refine B6 5 (B := B1) (xs := l.map sv) (ys := [sv x]) (m := l.length) (c := c1) rfl Ae rfl A4 Ac rfl rfl hB1 Dz Ac (fun a ha => by cases ha; exact Bg Dk Ac) Af Ac Ad Aa Ad .free rfl (fun _ => .inr Ax) ?_; intro B2 c2 hB2; rw [show l.map sv ++ [sv x] = (l ++ [x]).map sv by simp] at hB2 ⊢; refine C9 hB2 Af D0 I7 ?_; intro J1 o1 k1 e1 hbv1 hst1; refine E0 (t := 12) rfl hbv1 ?_
   have h := h.mono e1
   have ht := ht.mono e1
   refine Dc 8 rfl rfl (D6 h.types _) ?_; rintro _ _ _ _ ⟨vs, B3, c3, hl3, rfl, hB3, rfl, rfl⟩; refine Hx ?_; refine B6 11 (B := B3) (xs := vs) (ys := [.string (str t.tree.atom), .slice ot t.tree.parts.length ct]) (m := (m.map Ty.tree).length) (c := c3) rfl Ae rfl A4 Ac rfl rfl hB3 Dz Ac (fun a ha => by cases ha; exact Bg Dk Ac) Af Ac Ad Ci Ad .free rfl (fun _ => .inr Ax) ?_; intro B4 c4 hB4; refine Eo (ts := (m ++ [t]).map Ty.tree) Gx hB4 Af D0 ?_; intro J2 o2 k2 e2 hbv2 hst2
   have hle0 := e1.trans e2
   refine E0 (t := 18) rfl hbv2 ?_; refine Da 12 rfl (Em rfl rfl rfl) ?_; refine Dx 13 rfl rfl rfl rfl ?_; refine A5 Ae ?_; refine Ai (.c rfl .nil) ?_
   exact ⟨J2, L, e1.trans e2, Bj, o1, k1, o2, k2, rfl, ⟨hst1.mono e2, hst2, by simp [hlm], h.small.add hts⟩, rfl⟩
theorem Iy {I : Heap} {L L' : Bh} {a : Addr} {vs : List Value} (h : Gs I L a vs) (hs : ∀ w, Mem I L' w → Mem I L w) : Gs I L' a vs := fun w hw => h w (hs w hw)
theorem Nq {I I' : Heap} (hle : HLe I I') {L : Bh} {a : Addr} {vs : List Value} (h : Gs I L a vs) : Gs I' L a vs := fun w hw => h w (hw.le hle)
theorem Zg (a : Addr) (o i : Nat) : (a.add o).add i = a.add (o + i) := by
 unfold Addr.add
 by_cases h1 : o = 0
 ·by_cases h2 : i = 0 <;> simp [h1, h2]
 ·by_cases h2 : i = 0
  ·simp [h1, h2]
  ·have : ¬ o + i = 0 := by omega
   simp [h1, h2, this, Nat.add_assoc]
theorem Abd {I : Heap} {L : Bh} {a : Addr} {vs us : List Value} {o k : Nat} (h : Gs I L a vs) (hc : N1 o k vs = some us) : Gs I L (a.add o) us := by
 intro w hw i hi; obtain ⟨h1, h2⟩ := N2 hc
 have h3 := h2 i Aa
 rw [List.getElem?_eq_getElem hi] at h3; obtain ⟨h4, h5⟩ := List.getElem?_eq_some_iff.1 h3; rw [Zg, h w hw (o + i) h4, h5]
theorem W0 {P : Program} {I : Heap} {L : Bh} {T : TypeId} {a : Addr} {vs : List Value} {fs : Array Field} {s b : Nat} {z : List Value} [ht : Aw P T (.struct fs) s b z] (h : Gs I L a vs) (hl : vs.length = s) : F9 P I L T a (.agg vs.toArray) := Lk hl h
theorem Te {P : Program} {I : Heap} {L : Bh} {T : TypeId} {a : Addr} {vs : List Value} {v : Value} {o : Nat} {d : TypeDesc} {s b : Nat} {z : List Value} [ht : Aw P T d s b z] (h : Gs I L a vs) (hc : N1 o 1 vs = some [v]) (hd : Ns d = true) : F9 P I L T (a.add o) v := E5 hd (Abd h hc)
structure Have (I : Heap) (L : Bh) (oh : Option Addr) (ts : List Ty) : Prop where
 rep : ∀ k (hk : k < ts.length), ∃ o1 c1, Rep I ts[k].tree [.string (str ts[k].tree.atom), .slice o1 ts[k].tree.parts.length c1] ∧ Gs I L ((Vd oh).add (k * 2)) [.string (str ts[k].tree.atom), .slice o1 ts[k].tree.parts.length c1]
 nil : oh = none → ts.length = 0
theorem Have.mono {I I' : Heap} (hle : HLe I I') {L : Bh} {oh : Option Addr} {ts : List Ty} (h : Have I L oh ts) : Have I' L oh ts :=
 ⟨fun k hk => by obtain ⟨o1, c1, h1, h2⟩ := h.rep k hk; exact ⟨o1, c1, h1.mono hle, Nq hle h2⟩, h.nil⟩
theorem Have.sub {I : Heap} {L L' : Bh} {oh : Option Addr} {ts : List Ty} (h : Have I L oh ts) (hs : ∀ w, Mem I L' w → Mem I L w) : Have I L' oh ts :=
 ⟨fun k hk => by obtain ⟨o1, c1, h1, h2⟩ := h.rep k hk; exact ⟨o1, c1, h1, Iy h2 hs⟩, h.nil⟩
theorem Ji {I : Heap} {t u : Tree} {cs : List Value} (h : Rep I t cs) (e : t = u) : Rep I u cs := e ▸ h
theorem Afg {α : Type} {l : List α} (h : l.length = 1) : ∃ a, l = [a] := by
 match l, h with
 | [a], _ => exact ⟨a, rfl⟩
theorem Td {α : Type} {l : List α} (h : l.length = 2) : ∃ a b, l = [a, b] := by
 match l, h with
 | [a, b], _ => exact ⟨a, b, rfl⟩
theorem Agn {α : Type} {l : List α} (h : l.length = 3) : ∃ a b c, l = [a, b, c] := by
 match l, h with
 | [a, b, c], _ => exact ⟨a, b, c, rfl⟩

theorem Ih {I : Heap} {l : List As} {m : List Ty} {oa ob : Option Addr} {c c' : Nat} (he : EnvAt I l m oa c ob c') {e : Ex} {cs : List Value} (h : Rep I e.tree cs) (hok : e.ok = true) (i : Nat) (hi : i ∈ Cl e.tree)
  {oh : Option Addr} {ts : List Ty} {ch : Nat} {L : Bh} (hh : Have I L oh ts) (hlt : ∀ x a b, e = .lt x a b → i = 3 → 0 < ts.length ∧ (ts.getD 0 .i).size ≤ 16) (hfn : ∀ f x s t b, e = .fn f x s t b → (Ty.fn s t).size ≤ 16) (hroom : l.length + 2 ≤ Bb) :
  Fun Tryz.prog 109 [.agg [.slice oa l.length c, .slice ob (m.map Ty.tree).length c'].toArray, .agg cs.toArray, .int .i64 (i : Nat), .slice oh ts.length ch] I L (RV (e.inL i l) (e.inM i (ts.getD 0 .i) m) L) := by
 obtain ⟨oc, cc, oaf, cf, rfl, hf⟩ := h.at'
 have hhn := hh.nil
 have hle0 : HLe I I := .refl _
 refine Al Af ?_; refine Se rfl ?_; refine Cc rfl rfl .free rfl ?_; intro b4; refine Cc rfl rfl .free rfl ?_; intro b5; refine A3 .free rfl ?_; intro b8; refine Ab (Ah (Ar (Se rfl ?_))); refine Bq rfl .free rfl ?_; refine Ca rfl (Cj hf.rep _) ?_; rintro _ _ _ _ ⟨rfl, rfl, rfl⟩; refine Od rfl rfl rfl (Om rfl ?_)
 apply Cy 13 16 rfl
 ·intro g1_4 hk
  try simp only [nb] at g1_4
  refine Ow rfl ?_; refine Dp rfl rfl rfl (.met rfl rfl) rfl ?_; refine Ot rfl rfl ?_
  exact Au 2 rfl rfl hk
 ·intro _ hk; refine A2 2 rfl ?_; refine Of rfl rfl ?_
  exact Au 2 rfl rfl hk
 refine Oa rfl (Ab ?_); refine Av rfl ?_ ?_
 ·intro c0
  try simp only [nb] at c0
  obtain ⟨x, a, b, rfl⟩ := Ex.of_let c0.1; obtain rfl : i = 3 := by omega
  simp only [Ex.ok, Bool.and_eq_true] at hok
  have hlen : (Ex.lt x a b).tree.parts.length = 4 := rfl
  obtain ⟨ht0, hts⟩ := hlt x a b rfl rfl
  have hg0 : ts.getD 0 .i = ts[0] := by simp [ht0]
  obtain ⟨o1, c1, hr0, hrd0⟩ := hh.rep 0 ht0; refine Ah ?_; refine Eb 11 rfl rfl ?_; refine Dt 0 [10] rfl (Co rfl) ?_; refine Da 1 rfl (Ap rfl) ?_; refine Dt 2 [10] rfl (Cn rfl) ?_
  first | refine Da 3 rfl (Bw rfl rfl 1 rfl) ?_ | refine Da 3 rfl (Bx rfl rfl 1 rfl) ?_
  refine Da 4 rfl (Bi rfl) ?_; refine Dt 5 [10] rfl (Kj rfl) ?_; refine Da 6 rfl (Ak rfl) ?_
  first | refine Da 7 rfl (Bw rfl rfl 0 rfl) ?_ | refine Da 7 rfl (Bx rfl rfl 0 rfl) ?_
  refine Dt 8 [10] rfl (C7 rfl) ?_; refine Dc 9 rfl rfl (Nj he x (Ex.name_len hok.1.1) hr0 (by rw [← hg0]; exact hts) (by unfold Bb at *; omega) _) ?_; rintro _ J1 _ e1 ⟨o2, k2, o3, k3, rfl, he1, rfl⟩; refine Hx ?_; refine Dx 10 rfl rfl rfl rfl ?_; refine A5 Ae ?_; refine Ai (.c rfl .nil) ?_
  exact ⟨J1, L, e1, Bj, o2, k2, o3, k3, by rw [hg0]; rfl, by rw [hg0]; exact he1, rfl⟩
 intro c0
 try simp only [nb] at c0
 refine Se rfl ?_; refine Bq rfl .free rfl ?_; refine Ca rfl (Cj hf.rep _) ?_; rintro _ _ _ _ ⟨rfl, rfl, rfl⟩; refine Od rfl rfl rfl (Oa rfl (Ab ?_)); refine Av rfl ?_ ?_
 ·intro c1
  try simp only [nb] at c1
  obtain ⟨f, x, s, t, b, rfl⟩ := Ex.of_fun c1
  simp only [Ex.ok, Bool.and_eq_true, decide_eq_true_eq] at hok
  have hlen : (Ex.fn f x s t b).tree.parts.length = 6 := rfl
  have hfs := hfn f x s t b rfl
  refine Ah ?_; refine Eb 20 rfl rfl ?_; refine Dt 0 [19] rfl (Co rfl) ?_; refine Da 1 rfl (Ap rfl) ?_; refine Dt 2 [19] rfl (Cn rfl) ?_
  first | refine Da 3 rfl (Bw rfl rfl 1 rfl) ?_ | refine Da 3 rfl (Bx rfl rfl 1 rfl) ?_
  refine Da 4 rfl (Bi rfl) ?_; refine Dt 5 [19] rfl (Kj rfl) ?_; refine Dt 6 [19] rfl (Co rfl) ?_; refine Da 9 rfl (Ap rfl) ?_; refine Dt 10 [19] rfl (Cn rfl) ?_
  first | refine Da 11 rfl (Bw rfl rfl 2 rfl) ?_ | refine Da 11 rfl (Bx rfl rfl 2 rfl) ?_
  refine Da 12 rfl (Bi rfl) ?_; refine Dt 13 [19] rfl (Kj rfl) ?_; refine Da 14 rfl (Ap rfl) ?_; refine Dt 15 [19] rfl (Cn rfl) ?_
  first | refine Da 16 rfl (Bw rfl rfl 3 rfl) ?_ | refine Da 16 rfl (Bx rfl rfl 3 rfl) ?_
  refine Dt 17 [19] rfl (C7 rfl) ?_; refine Dc 7 rfl rfl (Pe hf.rep _) ?_; rintro _ J1 _ e1 ⟨cs1, rfl, h1, rfl⟩
  have he := he.mono e1
  have hf := hf.mono e1
  refine Hx ?_; refine Dc 8 rfl rfl (Nj he f (Ex.name_len hok.1.1.1.1.1) h1 hfs (by unfold Bb at *; omega) _) ?_; rintro _ J2 _ e2 ⟨o2, k2, o3, k3, rfl, he1, rfl⟩
  have hf := hf.mono e2
  have hle1 := e1.trans e2
  refine Hx ?_; refine Dc 18 rfl rfl (Nj he1 x (Ex.name_len hok.1.1.1.1.2) (hf.as 3 s.tree Aa rfl) hok.1.1.2 (by simp; unfold Bb at *; omega) _) ?_; rintro _ J3 _ e3 ⟨o4, k4, o5, k5, rfl, he2, rfl⟩
  have hle2 := hle1.trans e3
  refine Hx ?_; refine Dx 19 rfl rfl rfl rfl ?_; refine A5 Ae ?_; refine Ai (.c rfl .nil) ?_
  exact ⟨J3, L, hle2, Bj, o4, k4, o5, k5, rfl, he2, rfl⟩
 intro c1
 try simp only [nb] at c1
 refine Aj (Aq (Se rfl ?_)); refine Bq rfl .free rfl ?_; refine Bu rfl rfl rfl rfl .free ?_; refine Ab ?_; refine Ai (.c rfl .nil) ?_
 have e1 : e.inL i l = l ∧ e.inM i (ts.getD 0 .i) m = m := by
  cases e with
  | lt x a b => exact ⟨if_neg fun hi => by rcases c0 with h | h; exact h rfl; omega, if_neg fun hi => by rcases c0 with h | h; exact h rfl; omega⟩
  | fn f x s t b => exact absurd rfl c1
  | _ => exact ⟨rfl, rfl⟩
 exact ⟨I, L, .refl _, Bj, oa, c, ob, c', by rw [e1.1, e1.2]; rfl, by rw [e1.1, e1.2]; exact he, rfl⟩
def JO (r : Option Ty) (L : Bh) : C3 := fun v I' L' => ∃ u cs ok, v = .tuple #[.agg cs.toArray, .bool ok] ∧ Rep I' u cs ∧ L = L' ∧ match r with | some t => ok = true ∧ u = t.tree | none => ok = false
theorem Ty.tree_eq {a b : Ty} : a.tree = b.tree ↔ a = b := ⟨Ty.tree_inj, fun h => by rw [h]⟩
theorem Mz (I : Heap) : Rep I W2 [.string (str []), .slice none 0 0] := .ofAtom (by simp [Bb])
theorem Md (I : Heap) : Rep I Ty.i.tree [.string (str [105]), .slice none 0 0] := .ofAtom (by simp [Bb])
theorem Ty.is_fn {t : Ty} : t.tree.is [62] 3 = true ↔ ∃ a b, t = .fn a b := by
 cases t with
 | i => simp [Ty.tree, Tree.is, Tree.parts]
 | fn a b => simp [Ty.tree, Tree.is, Tree.parts, Tree.head, Tree.atom]
 | pr a b => simp [Ty.tree, Tree.is, Tree.parts, Tree.head, Tree.atom]
theorem Ty.is_pr {t : Ty} : t.tree.is [42] 3 = true ↔ ∃ a b, t = .pr a b := by
 cases t with
 | i => simp [Ty.tree, Tree.is, Tree.parts]
 | fn a b => simp [Ty.tree, Tree.is, Tree.parts, Tree.head, Tree.atom]
 | pr a b => simp [Ty.tree, Tree.is, Tree.parts, Tree.head, Tree.atom]
theorem Wx {p : Prop} [Decidable p] {b : Bool} {t : Ty} (hb : b = decide p) : match (if p then some t else none) with | some t' => b = true ∧ t.tree = t'.tree | none => b = false := by
 subst hb
 by_cases h : p <;> simp [h]
theorem Aeo {l : List As} {m : List Ty} {s : As} {ok : Bool} {t : Tree} (hlen : l.length = m.length) (hok : ok = (B9 l s).isSome) (hi : ∀ i, B9 l s = some i → (m.map Ty.tree)[i]? = some t) :
  match Fg l m s with | some t' => ok = true ∧ t = t'.tree | none => ok = false := by
 unfold Fg
 cases h : B9 l s with
 | none => rw [h] at hok; exact hok
 | some i =>
  have h1 := (Ju (show Gn l s l.length = some i from h)).1
  have h2 := hi i h
  rw [h] at hok
  have h3 : i < m.length := by omega
  simp [h3] at h2
  simp [h3, hok, h2]
theorem Hf {I : Heap} {a b : Ty} {cs ds : List Value} (h : Rep I a.tree cs) (h' : Rep I b.tree ds) (L : Bh) : Fun Tryz.prog 131 [.agg cs.toArray, .agg ds.toArray] I L (Ee (.bool (decide (a = b))) I L) := by
 have := Qb h h' L
 rwa [show decide (a.tree = b.tree) = decide (a = b) from by simp [Ty.tree_eq]] at this

theorem Uo {I : Heap} {l : List As} {m : List Ty} {oa ob : Option Addr} {c c' : Nat} (he : EnvAt I l m oa c ob c') {e : Ex} {cs : List Value} (h : Rep I e.tree cs) (hok : e.ok = true)
  {oh : Option Addr} {ts : List Ty} {ch : Nat} {L : Bh} (hh : Have I L oh ts) (hts : ts.length = (Cl e.tree).length) (hfn : ∀ f x s t b, e = .fn f x s t b → (Ty.fn s t).size ≤ 16) :
  Fun Tryz.prog 110 [.agg [.slice oa l.length c, .slice ob (m.map Ty.tree).length c'].toArray, .agg cs.toArray, .slice oh ts.length ch] I L (JO (e.raw ts l m) L) := by
 obtain ⟨oc, cc, oaf, cf, rfl, hf⟩ := h.at'
 have ha := hf.alen
 have hhn := hh.nil
 have hle0 : HLe I I := .refl _
 refine Al Af ?_; refine Se rfl ?_; refine Cc rfl rfl .free rfl ?_; intro b3; refine Cc rfl rfl .free rfl ?_; intro b4; refine A3 .free rfl ?_; intro b6; refine Oa rfl (Ab (Se rfl ?_)); refine Ca rfl (Ace [105] Ad _ _) ?_; rintro _ _ _ _ ⟨rfl, rfl, rfl⟩; refine A3 .free rfl ?_; intro b8; refine Bu rfl rfl rfl rfl .free ?_; refine Ab (Ah (Se rfl ?_)); refine Bq rfl .free rfl ?_; refine Ca rfl (Cj hf.rep _) ?_; rintro _ _ _ _ ⟨rfl, rfl, rfl⟩; refine Ab (Ar (Se rfl (Od rfl rfl rfl (Oa rfl (Ab ?_))))); refine Av rfl ?_ ?_
 ·intro c0
  try simp only [nb] at c0
  have hb := Ex.of_nil c0
  refine Ah (Se rfl (Oh rfl ?_)); refine Bd rfl .free rfl ?_; refine Ca rfl (Ii e.tree.atom ha _ _) ?_; rintro _ _ _ _ ⟨rfl, rfl, rfl⟩; refine Ab ?_; refine Av rfl ?_ ?_
  ·intro c1
   try simp only [nb] at c1
   refine Se rfl ?_; refine Bq rfl .free rfl ?_; refine Oh rfl ?_; refine Bd rfl .free rfl ?_; refine Ca rfl (Yc he.names (he.types.form [] Ad) (by simp [he.len]) e.tree.atom _) ?_; rintro _ _ _ _ ⟨t, cs1, ok, rfl, rfl, rfl, hrt, hok1, hi1⟩; obtain ⟨o1, k1, _, rfl, -⟩ := hrt.open; refine Oe rfl rfl (Oe rfl rfl ?_); refine Bu rfl rfl rfl rfl .free ?_; refine Oa rfl (Ab ?_); refine Ai (.c rfl (.tmp rfl .nil)) ?_; refine ⟨I, L, .refl _, Bj, t, _, ok, rfl, hrt, rfl, ?_⟩
   cases e with
   | num s => have h1 := Hi (show Bn s = true from c1); rw [show Bt s = true from hok] at h1; cases h1
   | name s => exact Aeo he.len hok1 hi1
   | _ => cases hb
  intro c1
  try simp only [nb] at c1
  refine Aj (Se rfl ?_); refine Bq rfl .free rfl ?_; refine Bu rfl rfl rfl rfl .free ?_; refine Oa rfl (Ab ?_); refine Ai (.c rfl (.tmp rfl .nil)) ?_; refine ⟨I, L, .refl _, Bj, Ty.i.tree, _, true, rfl, Md _, rfl, ?_⟩
  cases e with
  | num s => exact ⟨rfl, rfl⟩
  | name s => have h1 := c1.symm.trans (show Bn s = true from hok); cases h1
  | _ => cases hb
 intro c0
 try simp only [nb] at c0
 refine Ah (Se rfl (Od rfl rfl rfl (Oa rfl (Ab ?_)))); refine Av rfl ?_ ?_
 ·intro c2
  try simp only [nb] at c2
  obtain ⟨a, b, rfl⟩ := Ex.of_bin (o := .add) c2; obtain ⟨s, t, rfl⟩ := Td (hts.trans (by rw [G7]; rfl)); obtain ⟨o0, k0, r0, d0⟩ := hh.rep 0 Af; obtain ⟨o1, k1, r1, d1⟩ := hh.rep 1 Af
  simp only [List.getElem_cons_zero, List.getElem_cons_succ] at r0 r1 d0 d1
  refine Aj ?_
  first | refine St rfl (by first | assumption | omega) ?_ | refine Bs Am ?_
  refine Ah ?_; refine Eb 15 rfl rfl ?_; refine Dt 0 [13] rfl (Co rfl) ?_; refine Da 1 rfl (Ak rfl) ?_
  first | refine Da 2 rfl (Bw rfl rfl 0 rfl) ?_ | refine Da 2 rfl (Bx rfl rfl 0 rfl) ?_
  refine Dt 3 [5, 6, 11, 13] rfl (C7 rfl) ?_; refine Dt 4 [5, 6, 11, 13] rfl (Co rfl) ?_; refine Dc 5 rfl rfl (Hf r0 (Md _) _) ?_; rintro _ _ _ _ ⟨rfl, rfl, rfl⟩; refine Hx ?_; refine Da 6 rfl (Ak rfl) ?_
  apply N3 34 40 rfl
  ·intro g10_7 hk
   try simp only [nb] at g10_7
   refine Dm 7 rfl (Ak rfl) ?_
   first | refine Dm 8 rfl (Bw rfl rfl 1 rfl) ?_ | refine Dm 8 rfl (Bx rfl rfl 1 rfl) ?_
   refine E1 9 [11, 13] rfl Ae rfl Ax (C7 rfl) (.met rfl rfl) rfl ?_; refine E1 10 [11, 13] rfl Ae rfl Ax (Co rfl) (.met rfl rfl) rfl ?_; refine G3 11 rfl Ae rfl rfl (.met rfl rfl) rfl (Hf r1 (Md _) _) ?_; rintro _ _ _ _ ⟨rfl, rfl, rfl⟩; refine Hx ?_; refine Da 12 rfl (Dq rfl rfl) ?_
   exact Gf 5 rfl rfl hk
  ·intro _ hk; refine Ds 7 rfl rfl rfl ?_; refine Ds 8 rfl rfl rfl ?_; refine Ds 9 rfl rfl rfl ?_; refine Ds 10 rfl rfl rfl ?_; refine Ds 11 rfl rfl rfl ?_; refine Da 12 rfl (Do rfl rfl) ?_
   exact Gf 5 rfl rfl hk
  refine Dx 13 rfl rfl rfl rfl ?_; refine Db 14 rfl (At rfl) ?_; refine A5 Ae ?_; refine Ai (.c rfl (.tmp rfl .nil)) ?_
  exact ⟨I, L, .refl _, Bj, Ty.i.tree, _, _, rfl, Md _, rfl, Wx (p := s = .i ∧ t = .i) Af⟩
 intro c2
 try simp only [nb] at c2
 refine Se rfl (Od rfl rfl rfl (Oa rfl (Ab ?_))); refine Av rfl ?_ ?_
 ·intro c3
  try simp only [nb] at c3
  obtain ⟨a, b, rfl⟩ := Ex.of_bin (o := .sub) c3; obtain ⟨s, t, rfl⟩ := Td (hts.trans (by rw [G7]; rfl)); obtain ⟨o0, k0, r0, d0⟩ := hh.rep 0 Af; obtain ⟨o1, k1, r1, d1⟩ := hh.rep 1 Af
  simp only [List.getElem_cons_zero, List.getElem_cons_succ] at r0 r1 d0 d1
  refine Aj ?_
  first | refine St rfl (by first | assumption | omega) ?_ | refine Bs Am ?_
  refine Ah ?_; refine Eb 15 rfl rfl ?_; refine Dt 0 [13] rfl (Co rfl) ?_; refine Da 1 rfl (Ak rfl) ?_
  first | refine Da 2 rfl (Bw rfl rfl 0 rfl) ?_ | refine Da 2 rfl (Bx rfl rfl 0 rfl) ?_
  refine Dt 3 [5, 6, 11, 13] rfl (C7 rfl) ?_; refine Dt 4 [5, 6, 11, 13] rfl (Co rfl) ?_; refine Dc 5 rfl rfl (Hf r0 (Md _) _) ?_; rintro _ _ _ _ ⟨rfl, rfl, rfl⟩; refine Hx ?_; refine Da 6 rfl (Ak rfl) ?_
  apply N3 34 40 rfl
  ·intro g10_7 hk
   try simp only [nb] at g10_7
   refine Dm 7 rfl (Ak rfl) ?_
   first | refine Dm 8 rfl (Bw rfl rfl 1 rfl) ?_ | refine Dm 8 rfl (Bx rfl rfl 1 rfl) ?_
   refine E1 9 [11, 13] rfl Ae rfl Ax (C7 rfl) (.met rfl rfl) rfl ?_; refine E1 10 [11, 13] rfl Ae rfl Ax (Co rfl) (.met rfl rfl) rfl ?_; refine G3 11 rfl Ae rfl rfl (.met rfl rfl) rfl (Hf r1 (Md _) _) ?_; rintro _ _ _ _ ⟨rfl, rfl, rfl⟩; refine Hx ?_; refine Da 12 rfl (Dq rfl rfl) ?_
   exact Gf 5 rfl rfl hk
  ·intro _ hk; refine Ds 7 rfl rfl rfl ?_; refine Ds 8 rfl rfl rfl ?_; refine Ds 9 rfl rfl rfl ?_; refine Ds 10 rfl rfl rfl ?_; refine Ds 11 rfl rfl rfl ?_; refine Da 12 rfl (Do rfl rfl) ?_
   exact Gf 5 rfl rfl hk
  refine Dx 13 rfl rfl rfl rfl ?_; refine Db 14 rfl (At rfl) ?_; refine A5 Ae ?_; refine Ai (.c rfl (.tmp rfl .nil)) ?_
  exact ⟨I, L, .refl _, Bj, Ty.i.tree, _, _, rfl, Md _, rfl, Wx (p := s = .i ∧ t = .i) Af⟩
 intro c3
 try simp only [nb] at c3
 refine Ao rfl (Od rfl rfl rfl (Oa rfl (Ab ?_))); refine Av rfl ?_ ?_
 ·intro c4
  try simp only [nb] at c4
  obtain ⟨a, b, rfl⟩ := Ex.of_bin (o := .mul) c4; obtain ⟨s, t, rfl⟩ := Td (hts.trans (by rw [G7]; rfl)); obtain ⟨o0, k0, r0, d0⟩ := hh.rep 0 Af; obtain ⟨o1, k1, r1, d1⟩ := hh.rep 1 Af
  simp only [List.getElem_cons_zero, List.getElem_cons_succ] at r0 r1 d0 d1
  refine Ah ?_; refine Eb 15 rfl rfl ?_; refine Dt 0 [13] rfl (Co rfl) ?_; refine Da 1 rfl (Ak rfl) ?_
  first | refine Da 2 rfl (Bw rfl rfl 0 rfl) ?_ | refine Da 2 rfl (Bx rfl rfl 0 rfl) ?_
  refine Dt 3 [5, 6, 11, 13] rfl (C7 rfl) ?_; refine Dt 4 [5, 6, 11, 13] rfl (Co rfl) ?_; refine Dc 5 rfl rfl (Hf r0 (Md _) _) ?_; rintro _ _ _ _ ⟨rfl, rfl, rfl⟩; refine Hx ?_; refine Da 6 rfl (Ak rfl) ?_
  apply N3 34 40 rfl
  ·intro g10_7 hk
   try simp only [nb] at g10_7
   refine Dm 7 rfl (Ak rfl) ?_
   first | refine Dm 8 rfl (Bw rfl rfl 1 rfl) ?_ | refine Dm 8 rfl (Bx rfl rfl 1 rfl) ?_
   refine E1 9 [11, 13] rfl Ae rfl Ax (C7 rfl) (.met rfl rfl) rfl ?_; refine E1 10 [11, 13] rfl Ae rfl Ax (Co rfl) (.met rfl rfl) rfl ?_; refine G3 11 rfl Ae rfl rfl (.met rfl rfl) rfl (Hf r1 (Md _) _) ?_; rintro _ _ _ _ ⟨rfl, rfl, rfl⟩; refine Hx ?_; refine Da 12 rfl (Dq rfl rfl) ?_
   exact Gf 5 rfl rfl hk
  ·intro _ hk; refine Ds 7 rfl rfl rfl ?_; refine Ds 8 rfl rfl rfl ?_; refine Ds 9 rfl rfl rfl ?_; refine Ds 10 rfl rfl rfl ?_; refine Ds 11 rfl rfl rfl ?_; refine Da 12 rfl (Do rfl rfl) ?_
   exact Gf 5 rfl rfl hk
  refine Dx 13 rfl rfl rfl rfl ?_; refine Db 14 rfl (At rfl) ?_; refine A5 Ae ?_; refine Ai (.c rfl (.tmp rfl .nil)) ?_
  exact ⟨I, L, .refl _, Bj, Ty.i.tree, _, _, rfl, Md _, rfl, Wx (p := s = .i ∧ t = .i) Af⟩
 intro c4
 try simp only [nb] at c4
 refine Se rfl (Od rfl rfl rfl (Oa rfl (Ab ?_))); refine Av rfl ?_ ?_
 ·intro c5
  try simp only [nb] at c5
  obtain ⟨a, b, d, rfl⟩ := Ex.of_if c5; obtain ⟨s, t, u, rfl⟩ := Agn hts; obtain ⟨o0, k0, r0, d0⟩ := hh.rep 0 Af; obtain ⟨o1, k1, r1, d1⟩ := hh.rep 1 Af; obtain ⟨o2, k2, r2, d2⟩ := hh.rep 2 Af
  simp only [List.getElem_cons_zero, List.getElem_cons_succ] at r0 r1 r2 d0 d1 d2
  refine Ah ?_; refine Eb 19 rfl rfl ?_; refine Da 0 rfl (Ak rfl) ?_
  first | refine Da 1 rfl (Bw rfl rfl 1 rfl) ?_ | refine Da 1 rfl (Bx rfl rfl 1 rfl) ?_
  refine Dt 2 [17] rfl (C7 rfl) ?_; refine Da 3 rfl (Ak rfl) ?_
  first | refine Da 4 rfl (Bw rfl rfl 0 rfl) ?_ | refine Da 4 rfl (Bx rfl rfl 0 rfl) ?_
  refine Dt 5 [7, 8, 15, 17] rfl (C7 rfl) ?_; refine Dt 6 [7, 8, 15, 17] rfl (Co rfl) ?_; refine Dc 7 rfl rfl (Hf r0 (Md _) _) ?_; rintro _ _ _ _ ⟨rfl, rfl, rfl⟩; refine Hx ?_; refine Da 8 rfl (Ak rfl) ?_
  apply N3 51 59 rfl
  ·intro g12_9 hk
   try simp only [nb] at g12_9
   refine Dm 9 rfl (Ak rfl) ?_
   first | refine Dm 10 rfl (Bw rfl rfl 1 rfl) ?_ | refine Dm 10 rfl (Bx rfl rfl 1 rfl) ?_
   refine E1 11 [15, 17] rfl Ae rfl Ax (C7 rfl) (.met rfl rfl) rfl ?_; refine Dm 12 rfl (Ak rfl) ?_
   first | refine Dm 13 rfl (Bw rfl rfl 2 rfl) ?_ | refine Dm 13 rfl (Bx rfl rfl 2 rfl) ?_
   refine E1 14 [15, 17] rfl Ae rfl Ax (C7 rfl) (.met rfl rfl) rfl ?_; refine G3 15 rfl Ae rfl rfl (.met rfl rfl) rfl (Hf r1 r2 _) ?_; rintro _ _ _ _ ⟨rfl, rfl, rfl⟩; refine Hx ?_; refine Da 16 rfl (Dq rfl rfl) ?_
   exact Gf 7 rfl rfl hk
  ·intro _ hk; refine Ds 9 rfl rfl rfl ?_; refine Ds 10 rfl rfl rfl ?_; refine Ds 11 rfl rfl rfl ?_; refine Ds 12 rfl rfl rfl ?_; refine Ds 13 rfl rfl rfl ?_; refine Ds 14 rfl rfl rfl ?_; refine Ds 15 rfl rfl rfl ?_; refine Da 16 rfl (Do rfl rfl) ?_
   exact Gf 7 rfl rfl hk
  refine Dx 17 rfl rfl rfl rfl ?_; refine Db 18 rfl (At rfl) ?_; refine A5 Ae ?_; refine Ai (.c rfl (.tmp rfl .nil)) ?_
  exact ⟨I, L, .refl _, Bj, t.tree, _, _, rfl, r1, rfl, Wx (p := s = .i ∧ t = u) Af⟩
 intro c5
 try simp only [nb] at c5
 refine Se rfl (Od rfl rfl rfl (Oa rfl (Ab ?_))); refine Av rfl ?_ ?_
 ·intro c6
  try simp only [nb] at c6
  obtain ⟨x, a, b, rfl⟩ := Ex.of_let c6; obtain ⟨s, t, rfl⟩ := Td hts; obtain ⟨o1, k1, r1, d1⟩ := hh.rep 1 Af
  simp only [List.getElem_cons_zero, List.getElem_cons_succ] at r1 d1
  refine Se rfl (Om rfl ?_)
  first | refine Bk rfl rfl 1 rfl .free rfl ?_ | refine Bl rfl rfl 1 rfl .free rfl ?_
  refine Gu rfl .free rfl ?_; refine Bu rfl rfl rfl rfl .free ?_; refine Oa rfl (Ab ?_); refine Ai (.c rfl (.tmp rfl .nil)) ?_
  exact ⟨I, L, .refl _, Bj, t.tree, _, _, rfl, r1, rfl, rfl, rfl⟩
 intro c6
 try simp only [nb] at c6
 refine Se rfl (Od rfl rfl rfl (Oa rfl (Ab ?_))); refine Av rfl ?_ ?_
 ·intro c7
  try simp only [nb] at c7
  obtain ⟨f, x, s, t, b, rfl⟩ := Ex.of_fun c7; obtain ⟨u, rfl⟩ := Afg hts; obtain ⟨o0, k0, r0, d0⟩ := hh.rep 0 Af
  simp only [List.getElem_cons_zero, List.getElem_cons_succ] at r0 d0
  have hlen : (Ex.fn f x s t b).tree.parts.length = 6 := rfl
  refine Ah ?_; refine Eb 12 rfl rfl ?_; refine Dt 0 [10] rfl (Co rfl) ?_; refine Da 2 rfl (Ak rfl) ?_
  first | refine Da 3 rfl (Bw rfl rfl 0 rfl) ?_ | refine Da 3 rfl (Bx rfl rfl 0 rfl) ?_
  refine Dt 4 [9, 10] rfl (C7 rfl) ?_; refine Da 5 rfl (Ap rfl) ?_; refine Dt 6 [7, 8, 9, 10] rfl (Cn rfl) ?_
  first | refine Da 7 rfl (Bw rfl rfl 4 rfl) ?_ | refine Da 7 rfl (Bx rfl rfl 4 rfl) ?_
  refine Dt 8 [9, 10] rfl (C7 rfl) ?_; refine Dc 1 rfl rfl (Pe hf.rep _) ?_; rintro _ J1 _ e1 ⟨cs1, rfl, h1, rfl⟩; obtain ⟨o1, k1, _, rfl, -⟩ := h1.open
  have hf := hf.mono e1
  have r0 := r0.mono e1
  have d0 := Nq e1 d0
  refine Hx ?_; refine Dc 9 rfl rfl (Hf r0 (hf.as 4 t.tree Aa rfl) _) ?_; rintro _ _ _ _ ⟨rfl, rfl, rfl⟩; refine Hx ?_; refine Dx 10 rfl rfl rfl rfl ?_; refine Db 11 rfl (At rfl) ?_; refine A5 Ae ?_; refine Ai (.c rfl (.tmp rfl .nil)) ?_
  exact ⟨J1, L, e1, Bj, (Ty.fn s t).tree, _, _, rfl, h1, rfl, Wx (p := u = t) Af⟩
 intro c7
 try simp only [nb] at c7
 refine Se rfl (Od rfl rfl rfl (Oa rfl (Ab ?_))); refine Av rfl ?_ ?_
 ·intro c8
  try simp only [nb] at c8
  obtain ⟨a, b, rfl⟩ := Ex.of_bin (o := .call) c8; obtain ⟨s, t, rfl⟩ := Td (hts.trans (by rw [G7]; rfl)); obtain ⟨o0, k0, r0, d0⟩ := hh.rep 0 Af; obtain ⟨o1, k1, r1, d1⟩ := hh.rep 1 Af
  simp only [List.getElem_cons_zero, List.getElem_cons_succ] at r0 r1 d0 d1
  obtain ⟨o2, k2, of2, cf2, hc2, hf2⟩ := r0.at'
  simp only [List.cons.injEq, Value.slice.injEq, and_true, true_and] at hc2
  obtain ⟨rfl, rfl⟩ := hc2
  have hfn2 := hf2.nil
  refine Ah (Ah ?_); refine Eb 18 rfl rfl ?_; refine Da 0 rfl (Ak rfl) ?_
  first | refine Da 1 rfl (Bw rfl rfl 0 rfl) ?_ | refine Da 1 rfl (Bx rfl rfl 0 rfl) ?_
  refine Dt 2 [18] rfl (C7 rfl) ?_; refine Dc 3 rfl rfl (K8 r0 [62] 3 _) ?_; rintro _ _ _ _ ⟨rfl, rfl, rfl⟩; refine Hx ?_; refine Da 4 rfl (T1 rfl) ?_; refine Da 5 rfl (Ak rfl) ?_
  apply Ad6 84 96 rfl
  ·intro g18_6 hk
   try simp only [nb] at g18_6
   have hp2 : s.tree.parts.length = 3 := by obtain ⟨s1, s2, rfl⟩ := Ty.is_fn.1 g18_6; rfl
   refine Dm 6 rfl (Ak rfl) ?_
   first | refine Dm 7 rfl (Bw rfl rfl 0 rfl) ?_ | refine Dm 7 rfl (Bx rfl rfl 0 rfl) ?_
   refine Dm 8 rfl (Bi rfl) ?_; refine E1 9 [18] rfl Ae rfl Ax (Kj rfl) (.met rfl rfl) rfl ?_
   first | refine Dm 10 rfl (Bw rfl rfl 1 rfl) ?_ | refine Dm 10 rfl (Bx rfl rfl 1 rfl) ?_
   refine E1 11 [18] rfl Ae rfl Ax (C7 rfl) (.met rfl rfl) rfl ?_; refine Dm 12 rfl (Ak rfl) ?_
   first | refine Dm 13 rfl (Bw rfl rfl 1 rfl) ?_ | refine Dm 13 rfl (Bx rfl rfl 1 rfl) ?_
   refine E1 14 [18] rfl Ae rfl Ax (C7 rfl) (.met rfl rfl) rfl ?_; refine G3 15 rfl Ae rfl rfl (.met rfl rfl) rfl (Qb (hf2.rp 1 Aa) r1 _) ?_; rintro _ _ _ _ ⟨rfl, rfl, rfl⟩; refine Hx ?_; refine Dm 16 rfl (T1 rfl) ?_; refine Da 17 rfl (Do rfl rfl) ?_
   exact Gf 11 rfl rfl hk
  ·intro _ hk; refine Ds 6 rfl rfl rfl ?_; refine Ds 7 rfl rfl rfl ?_; refine Ds 8 rfl rfl rfl ?_; refine Ds 9 rfl rfl rfl ?_; refine Ds 10 rfl rfl rfl ?_; refine Ds 11 rfl rfl rfl ?_; refine Ds 12 rfl rfl rfl ?_; refine Ds 13 rfl rfl rfl ?_; refine Ds 14 rfl rfl rfl ?_; refine Ds 15 rfl rfl rfl ?_; refine Ds 16 rfl rfl rfl ?_; refine Da 17 rfl (Dq rfl rfl) ?_
   exact Gf 11 rfl rfl hk
  refine A5 Ae ?_; refine Av rfl ?_ ?_
  ·intro c9
   try simp only [nb] at c9
   refine Se rfl ?_; refine Cd rfl rfl rfl .free rfl ?_; refine Bu rfl rfl rfl rfl .free ?_; refine Oa rfl (Ab ?_); refine Ai (.c rfl (.tmp rfl .nil)) ?_; refine ⟨I, L, .refl _, Bj, W2, _, _, rfl, Mz _, rfl, ?_⟩
   have : (Ex.bin .call a b).raw [s, t] l m = none := by
    cases s with
    | fn s1 s2 =>
     have hs : ¬ s1 = t := by
      intro h
      rcases c9 with h1 | h2
      ·have := Ty.is_fn.2 ⟨s1, s2, rfl⟩; rw [h1] at this; cases this
      ·exact h2 (congrArg Ty.tree h)
     exact if_neg hs
    | _ => rfl
   rw [this]
  intro c9
  try simp only [nb] at c9
  obtain ⟨s1, s2, rfl⟩ := Ty.is_fn.1 c9.1
  have hp2 : (Ty.fn s1 s2).tree.parts.length = 3 := rfl
  refine Aj (Se rfl (Om rfl ?_))
  first | refine Bk rfl rfl 0 rfl .free rfl ?_ | refine Bl rfl rfl 0 rfl .free rfl ?_
  refine Be rfl .free rfl ?_; refine F5 rfl .free rfl ?_
  first | refine Bk rfl rfl 2 rfl .free rfl ?_ | refine Bl rfl rfl 2 rfl .free rfl ?_
  refine Gu rfl .free rfl ?_; refine Bu rfl rfl rfl rfl .free ?_; refine Oa rfl (Ab ?_); refine Ai (.c rfl (.tmp rfl .nil)) ?_; refine ⟨I, L, .refl _, Bj, s2.tree, _, _, rfl, hf2.as 2 s2.tree Aa rfl, rfl, ?_⟩
  have : (Ex.bin .call a b).raw [.fn s1 s2, t] l m = some s2 := if_pos (Ty.tree_inj (show s1.tree = t.tree from c9.2))
  rw [this]; exact ⟨rfl, rfl⟩
 intro c8
 try simp only [nb] at c8
 refine Se rfl (Od rfl rfl rfl (Oa rfl (Ab ?_))); refine Av rfl ?_ ?_
 ·intro c10
  try simp only [nb] at c10
  obtain ⟨a, b, rfl⟩ := Ex.of_bin (o := .pair) c10; obtain ⟨s, t, rfl⟩ := Td (hts.trans (by rw [G7]; rfl)); obtain ⟨o0, k0, r0, d0⟩ := hh.rep 0 Af; obtain ⟨o1, k1, r1, d1⟩ := hh.rep 1 Af
  simp only [List.getElem_cons_zero, List.getElem_cons_succ] at r0 r1 d0 d1
  refine Ah ?_; refine Eb 10 rfl rfl ?_; refine Da 0 rfl (Ak rfl) ?_
  first | refine Da 1 rfl (Bw rfl rfl 0 rfl) ?_ | refine Da 1 rfl (Bx rfl rfl 0 rfl) ?_
  refine Dt 2 [8] rfl (C7 rfl) ?_; refine Da 3 rfl (Ak rfl) ?_
  first | refine Da 4 rfl (Bw rfl rfl 1 rfl) ?_ | refine Da 4 rfl (Bx rfl rfl 1 rfl) ?_
  refine Dt 5 [8] rfl (C7 rfl) ?_; refine E8 6 rfl Ae rfl rfl rfl Ac Ac Ac Ad Ad Ac .free rfl (.inr Ax) ?_; intro b112; refine D2 ?_; intro hz
  have hfs := Ri (c := 2) (b := b112) (RepL.two r0 r1) hz Af Fa
  refine Dc 7 rfl rfl (Wh [42] Ad hfs Fa _) ?_; rintro _ J2 _ e2 ⟨cs2, rfl, h2, rfl⟩
  have e3 := hz.trans e2
  obtain ⟨o2, k2, _, rfl, -⟩ := h2.open; refine Hx ?_; refine Dx 8 rfl rfl rfl rfl ?_; refine Db 9 rfl (At rfl) ?_; refine A5 Ae ?_; refine Ai (.c rfl (.tmp rfl .nil)) ?_
  exact ⟨J2, L, e3, Bj, (Ty.pr s t).tree, _, _, rfl, h2, rfl, rfl, rfl⟩
 intro c10
 try simp only [nb] at c10
 obtain ⟨o, a, rfl⟩ : ∃ o a, e = .un o a := by
  rcases Ex.of_other c0 c6 c5 c7 with ⟨o, a, b, rfl⟩ | h
  ·cases o
   ·exact absurd rfl c2
   ·exact absurd rfl c3
   ·exact absurd rfl c4
   ·exact absurd rfl c8
   ·exact absurd rfl c10
  ·exact h
 obtain ⟨s, rfl⟩ := Afg (hts.trans (by rw [Lj]; rfl)); obtain ⟨o0, k0, r0, d0⟩ := hh.rep 0 Af
 simp only [List.getElem_cons_zero] at r0 d0
 obtain ⟨o2, k2, of2, cf2, hc2, hf2⟩ := r0.at'
 simp only [List.cons.injEq, Value.slice.injEq, and_true, true_and] at hc2
 obtain ⟨rfl, rfl⟩ := hc2
 have hfn2 := hf2.nil
 refine Aj (Aq (Ah (Se rfl (Om rfl ?_))))
 first | refine Bk rfl rfl 0 rfl .free rfl ?_ | refine Bl rfl rfl 0 rfl .free rfl ?_
 refine Gu rfl .free rfl ?_; refine Ca rfl (K8 r0 [42] 3 _) ?_; rintro _ _ _ _ ⟨rfl, rfl, rfl⟩; refine Dl rfl .free rfl ?_; refine Ab ?_; refine Av rfl ?_ ?_
 ·intro c11
  try simp only [nb] at c11
  refine Se rfl ?_; refine Cd rfl rfl rfl .free rfl ?_; refine Bu rfl rfl rfl rfl .free ?_; refine Oa rfl (Ab ?_); refine Ai (.c rfl (.tmp rfl .nil)) ?_; refine ⟨I, L, .refl _, Bj, W2, _, _, rfl, Mz _, rfl, ?_⟩
  have : (Ex.un o a).raw [s] l m = none := by
   cases s with
   | pr s1 s2 => have := Ty.is_pr.2 ⟨s1, s2, rfl⟩; rw [c11] at this; cases this
   | _ => cases o <;> rfl
  rw [this]
 intro c11
 try simp only [nb] at c11
 obtain ⟨s1, s2, rfl⟩ := Ty.is_pr.1 c11
 have hp2 : (Ty.pr s1 s2).tree.parts.length = 3 := rfl
 refine Aj (Ah (Se rfl ?_)); refine Bq rfl .free rfl ?_; refine Ca rfl (Cj hf.rep _) ?_; rintro _ _ _ _ ⟨rfl, rfl, rfl⟩; refine Od rfl rfl rfl (Ab ?_); refine Av rfl ?_ ?_
 ·intro c12
  try simp only [nb] at c12
  refine Se rfl (Om rfl ?_)
  first | refine Bk rfl rfl 0 rfl .free rfl ?_ | refine Bl rfl rfl 0 rfl .free rfl ?_
  refine Be rfl .free rfl ?_; refine F5 rfl .free rfl ?_
  first | refine Bk rfl rfl 1 rfl .free rfl ?_ | refine Bl rfl rfl 1 rfl .free rfl ?_
  refine Gu rfl .free rfl ?_; refine Bu rfl rfl rfl rfl .free ?_; refine Oa rfl (Ab ?_); refine Ai (.c rfl (.tmp rfl .nil)) ?_; refine ⟨I, L, .refl _, Bj, s1.tree, _, _, rfl, hf2.as 1 s1.tree Aa rfl, rfl, ?_⟩; obtain rfl : o = .fst := by cases o; rfl; exact absurd (show Fo = Fn from c12) Ad
  exact ⟨rfl, rfl⟩
 intro c12
 try simp only [nb] at c12
 refine Aj (Se rfl (Om rfl ?_))
 first | refine Bk rfl rfl 0 rfl .free rfl ?_ | refine Bl rfl rfl 0 rfl .free rfl ?_
 refine Be rfl .free rfl ?_; refine F5 rfl .free rfl ?_
 first | refine Bk rfl rfl 2 rfl .free rfl ?_ | refine Bl rfl rfl 2 rfl .free rfl ?_
 refine Gu rfl .free rfl ?_; refine Bu rfl rfl rfl rfl .free ?_; refine Oa rfl (Ab ?_); refine Ai (.c rfl (.tmp rfl .nil)) ?_; refine ⟨I, L, .refl _, Bj, s2.tree, _, _, rfl, hf2.as 2 s2.tree Aa rfl, rfl, ?_⟩; obtain rfl : o = .snd := by cases o; exact absurd rfl c12; rfl
 exact ⟨rfl, rfl⟩
end Go.Proofs.YtmfagaajiakgoaaGreatDoor
