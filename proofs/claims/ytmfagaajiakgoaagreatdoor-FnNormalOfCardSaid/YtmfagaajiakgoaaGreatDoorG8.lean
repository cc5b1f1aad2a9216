/- Environments of types, by the program: one name more, the environment of a part. No conditions. -/
import Derived.Test.YtmfagaajiakgoaaGreatDoorG7

namespace Go.Proofs.YtmfagaajiakgoaaGreatDoor
set_option maxRecDepth 100000
set_option linter.unusedVariables false
set_option linter.unusedSimpArgs false

section rules
variable {P : Program} {f : FuncId} {n : Nat} {I₀ : Heap} {Q : De} {k : List Item} {E : Hy} {I : Heap} {L : Bo}
variable {ops : Array Oper} {S : World → Prop} {fuel : Nat} {listed : Array Bool}
theorem Qb {I : Heap} {e : TypeId} {ts : List Tree} {vs : List Value} {B : Kd} {m c : Nat} (hl : RepL I ts vs) (hB : C8 2 m c vs B) (hm : m = ts.length) (hn : ts.length ≤ Ba) :
  (B = none ∧ ts = []) ∨ ∃ b sp, B = some (b, sp) ∧ A8 e vs B = [(b, .cells (vs ++ sp).toArray e (0, 0))] ∧ ts.length ≤ c := by
 cases B with
 | none =>
  obtain ⟨h1, h2, h3⟩ := hB
  exact .inl ⟨rfl, List.length_eq_zero_iff.1 Aa⟩
 | some p => exact .inr ⟨p.1, p.2, rfl, rfl, by have := hB.2.1; omega⟩
theorem Ox (I : Heap) : Forms I none [] 0 := ⟨⟨[], .nil, by simp⟩, fun _ => rfl, by simp, by simp [Ba]⟩
theorem T9 {todo : List Item} {e : TypeId} {ts : List Tree} {vs : List Value} {B : Kd} {m c : Nat} (hl : RepL I ts vs) (hB : C8 2 m c vs B) (hm : m = ts.length) (hn : ts.length ≤ Ba)
  (h : ∀ I' oa c', HLe I I' → Bn m c B = .slice oa ts.length c' → Forms I' oa ts c' → RunS P f n I₀ Q todo E I' L) : RunS P f n I₀ Q todo E I (A8 e vs B ++ L) := by
 rcases Qb (e := e) hl hB hm hn with ⟨rfl, rfl⟩ | ⟨b, sp, rfl, _, hc⟩
 ·exact h I none 0 (.refl _) rfl (Ox _)
 ·exact Ci fun hle => h _ (some ⟨b, 0, none⟩) c hle (by rw [← hm]; rfl) (Nq hl hle hc hn)
theorem E8 {e : TypeId} {ts : List Tree} {vs : List Value} {B : Kd} {m c : Nat} (hl : RepL I ts vs) (hB : C8 2 m c vs B) (hm : m = ts.length) (hn : ts.length ≤ Ba)
  (h : ∀ I' oa c', HLe I I' → Bn m c B = .slice oa ts.length c' → Forms I' oa ts c' → Cv P f n I₀ Q ops S fuel listed k E I' L) : Cv P f n I₀ Q ops S fuel listed k E I (A8 e vs B ++ L) := by
 rcases Qb (e := e) hl hB hm hn with ⟨rfl, rfl⟩ | ⟨b, sp, rfl, _, hc⟩
 ·exact h I none 0 (.refl _) rfl (Ox _)
 ·exact Cp fun hle => h _ (some ⟨b, 0, none⟩) c hle (by rw [← hm]; rfl) (Nq hl hle hc hn)
end rules

theorem Hc {I : Heap} {oa : Option Addr} {l : List As} {c : Nat} (h : Strs I oa l c) (L : Bo) :
  Fun Tryz.prog 186 [.slice oa l.length c] I L (fun v I' L' => ∃ B c', v = Bn l.length c' B ∧ C8 1 l.length c' (l.map sv) B ∧ I = I' ∧ L' = A8 9 (l.map sv) B ++ L) := by
 have hlen := h.len
 unfold Ba at hlen
 refine Ao Af ?_; refine Se rfl (Oa rfl (Ab (Ah (Se rfl (Om rfl ?_))))); refine Qn rfl rfl .free rfl ?_; refine Ab ?_; refine A0 rfl ?_ ?_
 ·intro c0
  try simp only [nb] at c0
  have hnil : l = [] := h.nil Fv
  refine Se rfl (Oa rfl (Ab (Al (.tmp rfl .nil) ?_)))
  exact ⟨I, L, .refl _, fun _ h => h, none, 0, by rw [hnil]; rfl, by rw [hnil]; exact ⟨rfl, rfl, rfl⟩, rfl, by simp [A8]⟩
 intro c0
 try simp only [nb] at c0
 refine Ak (Se rfl ?_); refine Do .free rfl ?_; intro b5; refine Om rfl ?_; refine Gd (B := some (b5, [])) (xs := []) (ys := l.map sv) (m := 0) (c := 0) (L₀ := L) Au Ac rfl rfl ⟨rfl, Nat.le_refl _, rfl⟩ (fun _ h => h) Af h.reads h.none (Ct l) Ae Aa Ae .free rfl ?_; intro B1 c1 hB1; refine Oa rfl (Ab (Al (.tmp rfl .nil) ?_))
 exact ⟨I, _, .refl _, fun _ h => h, B1, c1, by simp [Ck], by simpa using hB1, rfl, rfl⟩
theorem Et {I : Heap} {oa : Option Addr} {ts : List Tree} {c : Nat} (h : Forms I oa ts c) (L : Bo) :
  Fun Tryz.prog 114 [.slice oa ts.length c] I L (fun v I' L' => ∃ vs B c', RepL I ts vs ∧ v = Bn ts.length c' B ∧ C8 2 ts.length c' vs B ∧ I = I' ∧ L' = A8 49 vs B ++ L) := by
 obtain ⟨⟨vs, hl, hst⟩, hn, hc, hlen⟩ := h
 unfold Ba at hlen
 have hvl := hl.length
 refine Ao Af ?_; refine Se rfl (Oa rfl (Ab (Ah (Se rfl (Om rfl ?_))))); refine Qn rfl rfl .free rfl ?_; refine Ab ?_; refine A0 rfl ?_ ?_
 ·intro c0
  try simp only [nb] at c0
  have hnil : ts = [] := hn Fv
  subst hnil; refine Se rfl (Oa rfl (Ab (Al (.tmp rfl .nil) ?_)))
  exact ⟨I, L, .refl _, fun _ h => h, [], none, 0, .nil, rfl, ⟨rfl, rfl, rfl⟩, rfl, rfl⟩
 intro c0
 try simp only [nb] at c0
 refine Ak (Se rfl ?_); refine Do .free rfl ?_; intro b5; refine Om rfl ?_; refine Gd (B := some (b5, [])) (xs := []) (ys := vs) (m := 0) (c := 0) (L₀ := L) Au Ac rfl rfl ⟨rfl, Nat.le_refl _, rfl⟩ (fun _ h => h) Aa (fun a ha => (hst a ha).reads) (fun ha => by rw [hn ha] at hvl; exact List.length_eq_zero_iff.1 (by simpa using hvl)) hl.plain Ae Aa Ae .free rfl ?_; intro B1 c1 hB1; refine Oa rfl (Ab (Al (.tmp rfl .nil) ?_))
 exact ⟨I, _, .refl _, fun _ h => h, vs, B1, c1, hl, by simp [Ck], by simpa using hB1, rfl, rfl⟩

structure EnvAt (I : Heap) (l : List As) (m : List Ty) (oa : Option Addr) (c : Nat) (ob : Option Addr) (c' : Nat) : Prop where
 names : Strs I oa l c
 types : Forms I ob (m.map Ty.tree) c'
 len : l.length = m.length
 small : smallL m
theorem EnvAt.mono {I I' : Heap} (hle : HLe I I') {l : List As} {m : List Ty} {oa : Option Addr} {c : Nat} {ob : Option Addr} {c' : Nat} (h : EnvAt I l m oa c ob c') : EnvAt I' l m oa c ob c' :=
 ⟨h.names.mono hle, h.types.mono hle, h.len, h.small⟩
def RV (l : List As) (m : List Ty) (L : Bo) : De := fun v I' L' => ∃ oa c ob c', v = .agg [.slice oa (List.length l) c, .slice ob (List.map Ty.tree m).length c'].toArray ∧ EnvAt I' l m oa c ob c' ∧ L = L'
theorem Oi {I : Heap} {l : List As} {m : List Ty} {oa ob : Option Addr} {c c' : Nat} (h : EnvAt I l m oa c ob c') (x : As) (hx : x.length ≤ Ba) {t : Ty} {cs : List Value} (ht : Rep I t.tree cs) (hts : t.size ≤ 16) (hroom : l.length + 1 ≤ Ba) (L : Bo) :
  Fun Tryz.prog 153 [.agg [.slice oa l.length c, .slice ob (m.map Ty.tree).length c'].toArray, .string (str x), .agg cs.toArray] I L (RV (l ++ [x]) (m ++ [t]) L) := by
 obtain ⟨ot, ct, _, rfl, -⟩ := ht.open
 have hle0 : HLe I I := .refl _
 have hlm := h.len
 unfold Ba at hroom
 refine Ao Af ?_; refine Se rfl ?_; refine Cn rfl rfl .free rfl ?_; intro b3; refine Cn rfl rfl .free rfl ?_; intro b5; refine Aw .free rfl ?_; intro b6; refine Ab (Ah ?_); refine Dn 14 rfl rfl ?_; refine Da 0 rfl (Aj rfl) ?_; refine Dt 1 [13] rfl (Bc rfl) ?_; refine Da 3 rfl (Ag rfl) ?_; refine Da 6 rfl (Aj rfl) ?_; refine Dt 7 [13] rfl (Bc rfl) ?_; refine Dt 9 [13] rfl (Cd rfl) ?_; refine Iz 2 4 10 Ad ?_ ?_ ?_
 ·skip
  refine G0 2 rfl rfl rfl .free rfl (Hc h.names _) ?_; rintro _ _ _ _ ⟨B1, c1, rfl, hB1, rfl, rfl⟩; refine Hx ?_; refine El 4 10 Ad ?_ ?_
  ·skip
   refine D3 4 rfl rfl rfl rfl Ac Ac Ac Ae Ae Ac .free rfl (.inr Ap) ?_; intro b11; refine El 5 10 Ad ?_ ?_
   ·skip
    refine Fw 5 (B := B1) (xs := l.map sv) (ys := [sv x]) (m := l.length) (c := c1) rfl rfl Au Ac rfl rfl hB1 Ek Ac (fun a ha => by cases ha; exact Bm Dr Ac) Af Ac Ae Aa Ae .free rfl (fun _ => .inr Ap) ?_; intro B2 c2 hB2; rw [show l.map sv ++ [sv x] = (l ++ [x]).map sv by simp] at hB2 ⊢; refine Cz hB2 Af C9 Jo ?_; intro J1 o1 k1 e1 hbv1 hst1; refine Eh (t := 12) rfl hbv1 ?_
    have h := h.mono e1
    have ht := ht.mono e1
    refine El 8 10 Ad ?_ ?_
    ·skip
     refine G0 8 rfl rfl rfl .free rfl (Et h.types _) ?_; rintro _ _ _ _ ⟨vs, B3, c3, hl3, rfl, hB3, rfl, rfl⟩; refine Hx ?_; refine C5 10 rfl Ad rfl rfl rfl Ac Ac Ac Ae Ae Ac .free rfl (.inr Ap) ?_; intro b17; refine Bt 11 (B := B3) (xs := vs) (ys := [.string (str t.tree.atom), .slice ot t.tree.parts.length ct]) (m := (m.map Ty.tree).length) (c := c3) rfl Ad rfl Au Ac rfl rfl hB3 Ek Ac (fun a ha => by cases ha; exact Bm Dr Ac) Af Ac Ae Cm Ae .free rfl (fun _ => .inr Ap) ?_; intro B4 c4 hB4; refine E8 (ts := (m ++ [t]).map Ty.tree) Hg hB4 Af C9 ?_; intro J2 o2 k2 e2 hbv2 hst2
     have hle0 := e1.trans e2
     refine Eh (t := 18) rfl hbv2 ?_; refine Da 12 rfl (E0 rfl rfl rfl) ?_; refine Dx 13 rfl rfl rfl rfl ?_; refine At Ad ?_; refine Al (.c rfl .nil) ?_
     exact ⟨J2, L, e1.trans e2, Bk, o1, k1, o2, k2, rfl, ⟨hst1.mono e2, hst2, by simp [hlm], h.small.add hts⟩, rfl⟩
    ·skip
     refine D3 10 rfl rfl rfl rfl Ac Ac Ac Ae Ae Ac .free rfl (.inr Ap) ?_; intro b17; refine Dc 8 rfl rfl (Et h.types _) ?_; rintro _ _ _ _ ⟨vs, B3, c3, hl3, rfl, hB3, rfl, rfl⟩; refine Hx ?_; refine Bt 11 (B := B3) (xs := vs) (ys := [.string (str t.tree.atom), .slice ot t.tree.parts.length ct]) (m := (m.map Ty.tree).length) (c := c3) rfl Ad rfl Au Ac rfl rfl hB3 Ek Ac (fun a ha => by cases ha; exact Bm Dr Ac) Af Ac Ae Cm Ae .free rfl (fun _ => .inr Ap) ?_; intro B4 c4 hB4; refine E8 (ts := (m ++ [t]).map Ty.tree) Hg hB4 Af C9 ?_; intro J2 o2 k2 e2 hbv2 hst2
     have hle0 := e1.trans e2
     refine Eh (t := 18) rfl hbv2 ?_; refine Da 12 rfl (E0 rfl rfl rfl) ?_; refine Dx 13 rfl rfl rfl rfl ?_; refine At Ad ?_; refine Al (.c rfl .nil) ?_
     exact ⟨J2, L, e1.trans e2, Bk, o1, k1, o2, k2, rfl, ⟨hst1.mono e2, hst2, by simp [hlm], h.small.add hts⟩, rfl⟩
   ·skip
    refine D3 10 rfl rfl rfl rfl Ac Ac Ac Ae Ae Ac .free rfl (.inr Ap) ?_; intro b17; refine Bt 5 (B := B1) (xs := l.map sv) (ys := [sv x]) (m := l.length) (c := c1) rfl Ad rfl Au Ac rfl rfl hB1 Ek Ac (fun a ha => by cases ha; exact Bm Dr Ac) Af Ac Ae Aa Ae .free rfl (fun _ => .inr Ap) ?_; intro B2 c2 hB2; rw [show l.map sv ++ [sv x] = (l ++ [x]).map sv by simp] at hB2 ⊢; refine Cz hB2 Af C9 Jo ?_; intro J1 o1 k1 e1 hbv1 hst1; refine Eh (t := 12) rfl hbv1 ?_
    have h := h.mono e1
    have ht := ht.mono e1
    refine Dc 8 rfl rfl (Et h.types _) ?_; rintro _ _ _ _ ⟨vs, B3, c3, hl3, rfl, hB3, rfl, rfl⟩; refine Hx ?_; refine Bt 11 (B := B3) (xs := vs) (ys := [.string (str t.tree.atom), .slice ot t.tree.parts.length ct]) (m := (m.map Ty.tree).length) (c := c3) rfl Ad rfl Au Ac rfl rfl hB3 Ek Ac (fun a ha => by cases ha; exact Bm Dr Ac) Af Ac Ae Cm Ae .free rfl (fun _ => .inr Ap) ?_; intro B4 c4 hB4; refine E8 (ts := (m ++ [t]).map Ty.tree) Hg hB4 Af C9 ?_; intro J2 o2 k2 e2 hbv2 hst2
    have hle0 := e1.trans e2
    refine Eh (t := 18) rfl hbv2 ?_; refine Da 12 rfl (E0 rfl rfl rfl) ?_; refine Dx 13 rfl rfl rfl rfl ?_; refine At Ad ?_; refine Al (.c rfl .nil) ?_
    exact ⟨J2, L, e1.trans e2, Bk, o1, k1, o2, k2, rfl, ⟨hst1.mono e2, hst2, by simp [hlm], h.small.add hts⟩, rfl⟩
  ·skip
   refine D3 10 rfl rfl rfl rfl Ac Ac Ac Ae Ae Ac .free rfl (.inr Ap) ?_; intro b17; refine C5 4 rfl Ad rfl rfl rfl Ac Ac Ac Ae Ae Ac .free rfl (.inr Ap) ?_; intro b11; refine Bt 5 (B := B1) (xs := l.map sv) (ys := [sv x]) (m := l.length) (c := c1) rfl Ad rfl Au Ac rfl rfl hB1 Ek Ac (fun a ha => by cases ha; exact Bm Dr Ac) Af Ac Ae Aa Ae .free rfl (fun _ => .inr Ap) ?_; intro B2 c2 hB2; rw [show l.map sv ++ [sv x] = (l ++ [x]).map sv by simp] at hB2 ⊢; refine Cz hB2 Af C9 Jo ?_; intro J1 o1 k1 e1 hbv1 hst1; refine Eh (t := 12) rfl hbv1 ?_
   have h := h.mono e1
   have ht := ht.mono e1
   refine Dc 8 rfl rfl (Et h.types _) ?_; rintro _ _ _ _ ⟨vs, B3, c3, hl3, rfl, hB3, rfl, rfl⟩; refine Hx ?_; refine Bt 11 (B := B3) (xs := vs) (ys := [.string (str t.tree.atom), .slice ot t.tree.parts.length ct]) (m := (m.map Ty.tree).length) (c := c3) rfl Ad rfl Au Ac rfl rfl hB3 Ek Ac (fun a ha => by cases ha; exact Bm Dr Ac) Af Ac Ae Cm Ae .free rfl (fun _ => .inr Ap) ?_; intro B4 c4 hB4; refine E8 (ts := (m ++ [t]).map Ty.tree) Hg hB4 Af C9 ?_; intro J2 o2 k2 e2 hbv2 hst2
   have hle0 := e1.trans e2
   refine Eh (t := 18) rfl hbv2 ?_; refine Da 12 rfl (E0 rfl rfl rfl) ?_; refine Dx 13 rfl rfl rfl rfl ?_; refine At Ad ?_; refine Al (.c rfl .nil) ?_
   exact ⟨J2, L, e1.trans e2, Bk, o1, k1, o2, k2, rfl, ⟨hst1.mono e2, hst2, by simp [hlm], h.small.add hts⟩, rfl⟩
 ·skip
  refine D3 4 rfl rfl rfl rfl Ac Ac Ac Ae Ae Ac .free rfl (.inr Ap) ?_; intro b11; refine El 2 10 Ad ?_ ?_
  ·skip
   refine G0 2 rfl rfl rfl .free rfl (Hc h.names _) ?_; rintro _ _ _ _ ⟨B1, c1, rfl, hB1, rfl, rfl⟩; refine Hx ?_; refine El 5 10 Ad ?_ ?_
   ·skip
    refine Fw 5 (B := B1) (xs := l.map sv) (ys := [sv x]) (m := l.length) (c := c1) rfl rfl Au Ac rfl rfl hB1 Ek Ac (fun a ha => by cases ha; exact Bm Dr Ac) Af Ac Ae Aa Ae .free rfl (fun _ => .inr Ap) ?_; intro B2 c2 hB2; rw [show l.map sv ++ [sv x] = (l ++ [x]).map sv by simp] at hB2 ⊢; refine Cz hB2 Af C9 Jo ?_; intro J1 o1 k1 e1 hbv1 hst1; refine Eh (t := 12) rfl hbv1 ?_
    have h := h.mono e1
    have ht := ht.mono e1
    refine El 8 10 Ad ?_ ?_
    ·skip
     refine G0 8 rfl rfl rfl .free rfl (Et h.types _) ?_; rintro _ _ _ _ ⟨vs, B3, c3, hl3, rfl, hB3, rfl, rfl⟩; refine Hx ?_; refine C5 10 rfl Ad rfl rfl rfl Ac Ac Ac Ae Ae Ac .free rfl (.inr Ap) ?_; intro b17; refine Bt 11 (B := B3) (xs := vs) (ys := [.string (str t.tree.atom), .slice ot t.tree.parts.length ct]) (m := (m.map Ty.tree).length) (c := c3) rfl Ad rfl Au Ac rfl rfl hB3 Ek Ac (fun a ha => by cases ha; exact Bm Dr Ac) Af Ac Ae Cm Ae .free rfl (fun _ => .inr Ap) ?_; intro B4 c4 hB4; refine E8 (ts := (m ++ [t]).map Ty.tree) Hg hB4 Af C9 ?_; intro J2 o2 k2 e2 hbv2 hst2
     have hle0 := e1.trans e2
     refine Eh (t := 18) rfl hbv2 ?_; refine Da 12 rfl (E0 rfl rfl rfl) ?_; refine Dx 13 rfl rfl rfl rfl ?_; refine At Ad ?_; refine Al (.c rfl .nil) ?_
     exact ⟨J2, L, e1.trans e2, Bk, o1, k1, o2, k2, rfl, ⟨hst1.mono e2, hst2, by simp [hlm], h.small.add hts⟩, rfl⟩
    ·skip
     refine D3 10 rfl rfl rfl rfl Ac Ac Ac Ae Ae Ac .free rfl (.inr Ap) ?_; intro b17; refine Dc 8 rfl rfl (Et h.types _) ?_; rintro _ _ _ _ ⟨vs, B3, c3, hl3, rfl, hB3, rfl, rfl⟩; refine Hx ?_; refine Bt 11 (B := B3) (xs := vs) (ys := [.string (str t.tree.atom), .slice ot t.tree.parts.length ct]) (m := (m.map Ty.tree).length) (c := c3) rfl Ad rfl Au Ac rfl rfl hB3 Ek Ac (fun a ha => by cases ha; exact Bm Dr Ac) Af Ac Ae Cm Ae .free rfl (fun _ => .inr Ap) ?_; intro B4 c4 hB4; refine E8 (ts := (m ++ [t]).map Ty.tree) Hg hB4 Af C9 ?_; intro J2 o2 k2 e2 hbv2 hst2
     have hle0 := e1.trans e2
     refine Eh (t := 18) rfl hbv2 ?_; refine Da 12 rfl (E0 rfl rfl rfl) ?_; refine Dx 13 rfl rfl rfl rfl ?_; refine At Ad ?_; refine Al (.c rfl .nil) ?_
     exact ⟨J2, L, e1.trans e2, Bk, o1, k1, o2, k2, rfl, ⟨hst1.mono e2, hst2, by simp [hlm], h.small.add hts⟩, rfl⟩
   ·skip
    refine D3 10 rfl rfl rfl rfl Ac Ac Ac Ae Ae Ac .free rfl (.inr Ap) ?_; intro b17; refine Bt 5 (B := B1) (xs := l.map sv) (ys := [sv x]) (m := l.length) (c := c1) rfl Ad rfl Au Ac rfl rfl hB1 Ek Ac (fun a ha => by cases ha; exact Bm Dr Ac) Af Ac Ae Aa Ae .free rfl (fun _ => .inr Ap) ?_; intro B2 c2 hB2; rw [show l.map sv ++ [sv x] = (l ++ [x]).map sv by simp] at hB2 ⊢; refine Cz hB2 Af C9 Jo ?_; intro J1 o1 k1 e1 hbv1 hst1; refine Eh (t := 12) rfl hbv1 ?_
    have h := h.mono e1
    have ht := ht.mono e1
    refine Dc 8 rfl rfl (Et h.types _) ?_; rintro _ _ _ _ ⟨vs, B3, c3, hl3, rfl, hB3, rfl, rfl⟩; refine Hx ?_; refine Bt 11 (B := B3) (xs := vs) (ys := [.string (str t.tree.atom), .slice ot t.tree.parts.length ct]) (m := (m.map Ty.tree).length) (c := c3) rfl Ad rfl Au Ac rfl rfl hB3 Ek Ac (fun a ha => by cases ha; exact Bm Dr Ac) Af Ac Ae Cm Ae .free rfl (fun _ => .inr Ap) ?_; intro B4 c4 hB4; refine E8 (ts := (m ++ [t]).map Ty.tree) Hg hB4 Af C9 ?_; intro J2 o2 k2 e2 hbv2 hst2
    have hle0 := e1.trans e2
    refine Eh (t := 18) rfl hbv2 ?_; refine Da 12 rfl (E0 rfl rfl rfl) ?_; refine Dx 13 rfl rfl rfl rfl ?_; refine At Ad ?_; refine Al (.c rfl .nil) ?_
    exact ⟨J2, L, e1.trans e2, Bk, o1, k1, o2, k2, rfl, ⟨hst1.mono e2, hst2, by simp [hlm], h.small.add hts⟩, rfl⟩
  ·skip
   refine D3 10 rfl rfl rfl rfl Ac Ac Ac Ae Ae Ac .free rfl (.inr Ap) ?_; intro b17; refine Dc 2 rfl rfl (Hc h.names _) ?_; rintro _ _ _ _ ⟨B1, c1, rfl, hB1, rfl, rfl⟩; refine Hx ?_; refine Bt 5 (B := B1) (xs := l.map sv) (ys := [sv x]) (m := l.length) (c := c1) rfl Ad rfl Au Ac rfl rfl hB1 Ek Ac (fun a ha => by cases ha; exact Bm Dr Ac) Af Ac Ae Aa Ae .free rfl (fun _ => .inr Ap) ?_; intro B2 c2 hB2; rw [show l.map sv ++ [sv x] = (l ++ [x]).map sv by simp] at hB2 ⊢; refine Cz hB2 Af C9 Jo ?_; intro J1 o1 k1 e1 hbv1 hst1; refine Eh (t := 12) rfl hbv1 ?_
   have h := h.mono e1
   have ht := ht.mono e1
   refine Dc 8 rfl rfl (Et h.types _) ?_; rintro _ _ _ _ ⟨vs, B3, c3, hl3, rfl, hB3, rfl, rfl⟩; refine Hx ?_; refine Bt 11 (B := B3) (xs := vs) (ys := [.string (str t.tree.atom), .slice ot t.tree.parts.length ct]) (m := (m.map Ty.tree).length) (c := c3) rfl Ad rfl Au Ac rfl rfl hB3 Ek Ac (fun a ha => by cases ha; exact Bm Dr Ac) Af Ac Ae Cm Ae .free rfl (fun _ => .inr Ap) ?_; intro B4 c4 hB4; refine E8 (ts := (m ++ [t]).map Ty.tree) Hg hB4 Af C9 ?_; intro J2 o2 k2 e2 hbv2 hst2
   have hle0 := e1.trans e2
   refine Eh (t := 18) rfl hbv2 ?_; refine Da 12 rfl (E0 rfl rfl rfl) ?_; refine Dx 13 rfl rfl rfl rfl ?_; refine At Ad ?_; refine Al (.c rfl .nil) ?_
   exact ⟨J2, L, e1.trans e2, Bk, o1, k1, o2, k2, rfl, ⟨hst1.mono e2, hst2, by simp [hlm], h.small.add hts⟩, rfl⟩
 ·skip
  refine D3 10 rfl rfl rfl rfl Ac Ac Ac Ae Ae Ac .free rfl (.inr Ap) ?_; intro b17; refine El 2 4 Ad ?_ ?_
  ·skip
   refine G0 2 rfl rfl rfl .free rfl (Hc h.names _) ?_; rintro _ _ _ _ ⟨B1, c1, rfl, hB1, rfl, rfl⟩; refine Hx ?_; refine C5 4 rfl Ad rfl rfl rfl Ac Ac Ac Ae Ae Ac .free rfl (.inr Ap) ?_; intro b11; refine Bt 5 (B := B1) (xs := l.map sv) (ys := [sv x]) (m := l.length) (c := c1) rfl Ad rfl Au Ac rfl rfl hB1 Ek Ac (fun a ha => by cases ha; exact Bm Dr Ac) Af Ac Ae Aa Ae .free rfl (fun _ => .inr Ap) ?_; intro B2 c2 hB2; rw [show l.map sv ++ [sv x] = (l ++ [x]).map sv by simp] at hB2 ⊢; refine Cz hB2 Af C9 Jo ?_; intro J1 o1 k1 e1 hbv1 hst1; refine Eh (t := 12) rfl hbv1 ?_
   have h := h.mono e1
   have ht := ht.mono e1
   refine Dc 8 rfl rfl (Et h.types _) ?_; rintro _ _ _ _ ⟨vs, B3, c3, hl3, rfl, hB3, rfl, rfl⟩; refine Hx ?_; refine Bt 11 (B := B3) (xs := vs) (ys := [.string (str t.tree.atom), .slice ot t.tree.parts.length ct]) (m := (m.map Ty.tree).length) (c := c3) rfl Ad rfl Au Ac rfl rfl hB3 Ek Ac (fun a ha => by cases ha; exact Bm Dr Ac) Af Ac Ae Cm Ae .free rfl (fun _ => .inr Ap) ?_; intro B4 c4 hB4; refine E8 (ts := (m ++ [t]).map Ty.tree) Hg hB4 Af C9 ?_; intro J2 o2 k2 e2 hbv2 hst2
   have hle0 := e1.trans e2
   refine Eh (t := 18) rfl hbv2 ?_; refine Da 12 rfl (E0 rfl rfl rfl) ?_; refine Dx 13 rfl rfl rfl rfl ?_; refine At Ad ?_; refine Al (.c rfl .nil) ?_
   exact ⟨J2, L, e1.trans e2, Bk, o1, k1, o2, k2, rfl, ⟨hst1.mono e2, hst2, by simp [hlm], h.small.add hts⟩, rfl⟩
  ·skip
   refine D3 4 rfl rfl rfl rfl Ac Ac Ac Ae Ae Ac .free rfl (.inr Ap) ?_; intro b11; refine Dc 2 rfl rfl (Hc h.names _) ?_; rintro _ _ _ _ ⟨B1, c1, rfl, hB1, rfl, rfl⟩; refine Hx ?_; refine Bt 5 (B := B1) (xs := l.map sv) (ys := [sv x]) (m := l.length) (c := c1) rfl Ad rfl Au Ac rfl rfl hB1 Ek Ac (fun a ha => by cases ha; exact Bm Dr Ac) Af Ac Ae Aa Ae .free rfl (fun _ => .inr Ap) ?_; intro B2 c2 hB2; rw [show l.map sv ++ [sv x] = (l ++ [x]).map sv by simp] at hB2 ⊢; refine Cz hB2 Af C9 Jo ?_; intro J1 o1 k1 e1 hbv1 hst1; refine Eh (t := 12) rfl hbv1 ?_
   have h := h.mono e1
   have ht := ht.mono e1
   refine Dc 8 rfl rfl (Et h.types _) ?_; rintro _ _ _ _ ⟨vs, B3, c3, hl3, rfl, hB3, rfl, rfl⟩; refine Hx ?_; refine Bt 11 (B := B3) (xs := vs) (ys := [.string (str t.tree.atom), .slice ot t.tree.parts.length ct]) (m := (m.map Ty.tree).length) (c := c3) rfl Ad rfl Au Ac rfl rfl hB3 Ek Ac (fun a ha => by cases ha; exact Bm Dr Ac) Af Ac Ae Cm Ae .free rfl (fun _ => .inr Ap) ?_; intro B4 c4 hB4; refine E8 (ts := (m ++ [t]).map Ty.tree) Hg hB4 Af C9 ?_; intro J2 o2 k2 e2 hbv2 hst2
   have hle0 := e1.trans e2
   refine Eh (t := 18) rfl hbv2 ?_; refine Da 12 rfl (E0 rfl rfl rfl) ?_; refine Dx 13 rfl rfl rfl rfl ?_; refine At Ad ?_; refine Al (.c rfl .nil) ?_
   exact ⟨J2, L, e1.trans e2, Bk, o1, k1, o2, k2, rfl, ⟨hst1.mono e2, hst2, by simp [hlm], h.small.add hts⟩, rfl⟩
theorem Ji {I : Heap} {L L' : Bo} {a : Addr} {vs : List Value} (h : Hj I L a vs) (hs : ∀ w, Mem I L' w → Mem I L w) : Hj I L' a vs := fun w hw => h w (hs w hw)
theorem O5 {I I' : Heap} (hle : HLe I I') {L : Bo} {a : Addr} {vs : List Value} (h : Hj I L a vs) : Hj I' L a vs := fun w hw => h w (hw.le hle)
theorem Zm (a : Addr) (o i : Nat) : (a.add o).add i = a.add (o + i) := by
 unfold Addr.add
 by_cases h1 : o = 0
 ·by_cases h2 : i = 0 <;> simp [h1, h2]
 ·by_cases h2 : i = 0
  ·simp [h1, h2]
  ·have : ¬ o + i = 0 := by omega
   simp [h1, h2, this, Nat.add_assoc]
theorem Abg {I : Heap} {L : Bo} {a : Addr} {vs us : List Value} {o k : Nat} (h : Hj I L a vs) (hc : Og o k vs = some us) : Hj I L (a.add o) us := by
 intro w hw i hi; obtain ⟨h1, h2⟩ := M1 hc
 have h3 := h2 i Aa
 rw [List.getElem?_eq_getElem hi] at h3; obtain ⟨h4, h5⟩ := List.getElem?_eq_some_iff.1 h3; rw [Zm, h w hw (o + i) h4, h5]
theorem Xo {P : Program} {I : Heap} {L : Bo} {T : TypeId} {a : Addr} {vs : List Value} {fs : Array Field} {s b : Nat} {z : List Value} [ht : Ay P T (.struct fs) s b z] (h : Hj I L a vs) (hl : vs.length = s) : Gn P I L T a (.agg vs.toArray) := Kh hl h
theorem Ut {P : Program} {I : Heap} {L : Bo} {T : TypeId} {a : Addr} {vs : List Value} {v : Value} {o : Nat} {d : TypeDesc} {s b : Nat} {z : List Value} [ht : Ay P T d s b z] (h : Hj I L a vs) (hc : Og o 1 vs = some [v]) (hd : O8 d = true) : Gn P I L T (a.add o) v := Fo hd (Abg h hc)
structure Have (I : Heap) (L : Bo) (oh : Option Addr) (ts : List Ty) : Prop where
 rep : ∀ k (hk : k < ts.length), ∃ o1 c1, Rep I ts[k].tree [.string (str ts[k].tree.atom), .slice o1 ts[k].tree.parts.length c1] ∧ Hj I L ((Wb oh).add (k * 2)) [.string (str ts[k].tree.atom), .slice o1 ts[k].tree.parts.length c1]
 nil : oh = none → ts.length = 0
theorem Have.mono {I I' : Heap} (hle : HLe I I') {L : Bo} {oh : Option Addr} {ts : List Ty} (h : Have I L oh ts) : Have I' L oh ts :=
 ⟨fun k hk => by obtain ⟨o1, c1, h1, h2⟩ := h.rep k hk; exact ⟨o1, c1, h1.mono hle, O5 hle h2⟩, h.nil⟩
theorem Have.sub {I : Heap} {L L' : Bo} {oh : Option Addr} {ts : List Ty} (h : Have I L oh ts) (hs : ∀ w, Mem I L' w → Mem I L w) : Have I L' oh ts :=
 ⟨fun k hk => by obtain ⟨o1, c1, h1, h2⟩ := h.rep k hk; exact ⟨o1, c1, h1, Ji h2 hs⟩, h.nil⟩
theorem Jz {I : Heap} {t u : Tree} {cs : List Value} (h : Rep I t cs) (e : t = u) : Rep I u cs := e ▸ h
theorem Aff {α : Type} {l : List α} (h : l.length = 1) : ∃ a, l = [a] := by
 match l, h with
 | [a], _ => exact ⟨a, rfl⟩
theorem Us {α : Type} {l : List α} (h : l.length = 2) : ∃ a b, l = [a, b] := by
 match l, h with
 | [a, b], _ => exact ⟨a, b, rfl⟩
theorem Agf {α : Type} {l : List α} (h : l.length = 3) : ∃ a b c, l = [a, b, c] := by
 match l, h with
 | [a, b, c], _ => exact ⟨a, b, c, rfl⟩

theorem I1 {I : Heap} {l : List As} {m : List Ty} {oa ob : Option Addr} {c c' : Nat} (he : EnvAt I l m oa c ob c') {e : Ex} {cs : List Value} (h : Rep I e.tree cs) (hok : e.ok = true) (i : Nat) (hi : i ∈ C3 e.tree)
  {oh : Option Addr} {ts : List Ty} {ch : Nat} {L : Bo} (hh : Have I L oh ts) (hlt : ∀ x a b, e = .lt x a b → i = 3 → 0 < ts.length ∧ (ts.getD 0 .i).size ≤ 16) (hfn : ∀ f x s t b, e = .fn f x s t b → (Ty.fn s t).size ≤ 16) (hroom : l.length + 2 ≤ Ba) :
  Fun Tryz.prog 109 [.agg [.slice oa l.length c, .slice ob (m.map Ty.tree).length c'].toArray, .agg cs.toArray, .int .i64 (i : Nat), .slice oh ts.length ch] I L (RV (e.inL i l) (e.inM i (ts.getD 0 .i) m) L) := by
 obtain ⟨oc, cc, oaf, cf, rfl, hf⟩ := h.at'
 have hhn := hh.nil
 have hle0 : HLe I I := .refl _
 refine Ao Af ?_; refine Se rfl ?_; refine Cn rfl rfl .free rfl ?_; intro b4; refine Cn rfl rfl .free rfl ?_; intro b5; refine Aw .free rfl ?_; intro b8; refine Ab (Ah (Aq (Se rfl ?_))); refine A2 rfl .free rfl ?_; refine Ca rfl (Bq hf.rep _) ?_; rintro _ _ _ _ ⟨rfl, rfl, rfl⟩; refine Od rfl rfl rfl (Om rfl ?_)
 apply Ep 13 16 rfl
 ·intro g1_4 hk
  try simp only [nb] at g1_4
  refine Ow rfl ?_; refine D0 rfl rfl rfl (.met rfl rfl) rfl ?_; refine Ot rfl rfl ?_
  exact A7 2 rfl rfl hk
 ·intro _ hk; refine Bj 2 rfl ?_; refine Of rfl rfl ?_
  exact A7 2 rfl rfl hk
 refine Oa rfl (Ab ?_); refine A0 rfl ?_ ?_
 ·intro c0
  try simp only [nb] at c0
  obtain ⟨x, a, b, rfl⟩ := Ex.of_let c0.1; obtain rfl : i = 3 := by omega
  simp only [Ex.ok, Bool.and_eq_true] at hok
  have hlen : (Ex.lt x a b).tree.parts.length = 4 := rfl
  obtain ⟨ht0, hts⟩ := hlt x a b rfl rfl
  have hg0 : ts.getD 0 .i = ts[0] := by simp [ht0]
  obtain ⟨o1, c1, hr0, hrd0⟩ := hh.rep 0 ht0; refine Ah ?_; refine Dn 11 rfl rfl ?_; refine Dt 0 [10] rfl (Cd rfl) ?_; refine Da 1 rfl (Aj rfl) ?_; refine Dt 2 [10] rfl (Bc rfl) ?_
  first | refine Da 3 rfl (A3 rfl rfl 1 rfl) ?_ | refine Da 3 rfl (A4 rfl rfl 1 rfl) ?_
  refine Da 4 rfl (Bi rfl) ?_; refine Dt 5 [10] rfl (I6 rfl) ?_; refine Da 6 rfl (Ag rfl) ?_
  first | refine Da 7 rfl (A3 rfl rfl 0 rfl) ?_ | refine Da 7 rfl (A4 rfl rfl 0 rfl) ?_
  refine Dt 8 [10] rfl (B7 rfl) ?_; refine Dc 9 rfl rfl (Oi he x (Ex.name_len hok.1.1) hr0 (by rw [← hg0]; exact hts) (by unfold Ba at *; omega) _) ?_; rintro _ J1 _ e1 ⟨o2, k2, o3, k3, rfl, he1, rfl⟩; refine Hx ?_; refine Dx 10 rfl rfl rfl rfl ?_; refine At Ad ?_; refine Al (.c rfl .nil) ?_
  exact ⟨J1, L, e1, Bk, o2, k2, o3, k3, by rw [hg0]; rfl, by rw [hg0]; exact he1, rfl⟩
 intro c0
 try simp only [nb] at c0
 refine Se rfl ?_; refine A2 rfl .free rfl ?_; refine Ca rfl (Bq hf.rep _) ?_; rintro _ _ _ _ ⟨rfl, rfl, rfl⟩; refine Od rfl rfl rfl (Oa rfl (Ab ?_)); refine A0 rfl ?_ ?_
 ·intro c1
  try simp only [nb] at c1
  obtain ⟨f, x, s, t, b, rfl⟩ := Ex.of_fun c1
  simp only [Ex.ok, Bool.and_eq_true, decide_eq_true_eq] at hok
  have hlen : (Ex.fn f x s t b).tree.parts.length = 6 := rfl
  have hfs := hfn f x s t b rfl
  refine Ah ?_; refine Dn 20 rfl rfl ?_; refine Dt 0 [19] rfl (Cd rfl) ?_; refine Da 1 rfl (Aj rfl) ?_; refine Dt 2 [19] rfl (Bc rfl) ?_
  first | refine Da 3 rfl (A3 rfl rfl 1 rfl) ?_ | refine Da 3 rfl (A4 rfl rfl 1 rfl) ?_
  refine Da 4 rfl (Bi rfl) ?_; refine Dt 5 [19] rfl (I6 rfl) ?_; refine Dt 6 [19] rfl (Cd rfl) ?_; refine Da 9 rfl (Aj rfl) ?_; refine Dt 10 [19] rfl (Bc rfl) ?_
  first | refine Da 11 rfl (A3 rfl rfl 2 rfl) ?_ | refine Da 11 rfl (A4 rfl rfl 2 rfl) ?_
  refine Da 12 rfl (Bi rfl) ?_; refine Dt 13 [19] rfl (I6 rfl) ?_; refine Da 14 rfl (Aj rfl) ?_; refine Dt 15 [19] rfl (Bc rfl) ?_
  first | refine Da 16 rfl (A3 rfl rfl 3 rfl) ?_ | refine Da 16 rfl (A4 rfl rfl 3 rfl) ?_
  refine Dt 17 [19] rfl (B7 rfl) ?_; refine Dc 7 rfl rfl (P9 hf.rep _) ?_; rintro _ J1 _ e1 ⟨cs1, rfl, h1, rfl⟩
  have he := he.mono e1
  have hf := hf.mono e1
  refine Hx ?_; refine Dc 8 rfl rfl (Oi he f (Ex.name_len hok.1.1.1.1.1) h1 hfs (by unfold Ba at *; omega) _) ?_; rintro _ J2 _ e2 ⟨o2, k2, o3, k3, rfl, he1, rfl⟩
  have hf := hf.mono e2
  have hle1 := e1.trans e2
  refine Hx ?_; refine Dc 18 rfl rfl (Oi he1 x (Ex.name_len hok.1.1.1.1.2) (hf.as 3 s.tree Aa rfl) hok.1.1.2 (by simp; unfold Ba at *; omega) _) ?_; rintro _ J3 _ e3 ⟨o4, k4, o5, k5, rfl, he2, rfl⟩
  have hle2 := hle1.trans e3
  refine Hx ?_; refine Dx 19 rfl rfl rfl rfl ?_; refine At Ad ?_; refine Al (.c rfl .nil) ?_
  exact ⟨J3, L, hle2, Bk, o4, k4, o5, k5, rfl, he2, rfl⟩
 intro c1
 try simp only [nb] at c1
 refine Ak (Ar (Se rfl ?_)); refine A2 rfl .free rfl ?_; refine Bu rfl rfl rfl rfl .free ?_; refine Ab ?_; refine Al (.c rfl .nil) ?_
 have e1 : e.inL i l = l ∧ e.inM i (ts.getD 0 .i) m = m := by
  cases e with
  | lt x a b => exact ⟨if_neg fun hi => by rcases c0 with h | h; exact h rfl; omega, if_neg fun hi => by rcases c0 with h | h; exact h rfl; omega⟩
  | fn f x s t b => exact absurd rfl c1
  | _ => exact ⟨rfl, rfl⟩
 exact ⟨I, L, .refl _, Bk, oa, c, ob, c', by rw [e1.1, e1.2]; rfl, by rw [e1.1, e1.2]; exact he, rfl⟩
def JO (r : Option Ty) (L : Bo) : De := fun v I' L' => ∃ u cs ok, v = .tuple #[.agg cs.toArray, .bool ok] ∧ Rep I' u cs ∧ L = L' ∧ match r with | some t => ok = true ∧ u = t.tree | none => ok = false
theorem Ty.tree_eq {a b : Ty} : a.tree = b.tree ↔ a = b := ⟨Ty.tree_inj, fun h => by rw [h]⟩
theorem Nx (I : Heap) : Rep I Xq [.string (str []), .slice none 0 0] := .ofAtom (by simp [Ba])
theorem Nb (I : Heap) : Rep I Ty.i.tree [.string (str [105]), .slice none 0 0] := .ofAtom (by simp [Ba])
theorem Ty.is_fn {t : Ty} : t.tree.is [62] 3 = true ↔ ∃ a b, t = .fn a b := by
 cases t with
 | i => simp [Ty.tree, Tree.is, Tree.parts]
 | fn a b => simp [Ty.tree, Tree.is, Tree.parts, Tree.head, Tree.atom]
 | pr a b => simp [Ty.tree, Tree.is, Tree.parts, Tree.head, Tree.atom]
theorem Ty.is_pr {t : Ty} : t.tree.is [42] 3 = true ↔ ∃ a b, t = .pr a b := by
 cases t with
 | i => simp [Ty.tree, Tree.is, Tree.parts]
 | fn a b => simp [Ty.tree, Tree.is, Tree.parts, Tree.head, Tree.atom]
 | pr a b => simp [Ty.tree, Tree.is, Tree.parts, Tree.head, Tree.atom]
theorem Xk {p : Prop} [Decidable p] {b : Bool} {t : Ty} (hb : b = decide p) : match (if p then some t else none) with | some t' => b = true ∧ t.tree = t'.tree | none => b = false := by
 subst hb
 by_cases h : p <;> simp [h]
theorem Aem {l : List As} {m : List Ty} {s : As} {ok : Bool} {t : Tree} (hlen : l.length = m.length) (hok : ok = (Bv l s).isSome) (hi : ∀ i, Bv l s = some i → (m.map Ty.tree)[i]? = some t) :
  match Fl l m s with | some t' => ok = true ∧ t = t'.tree | none => ok = false := by
 unfold Fl
 cases h : Bv l s with
 | none => rw [h] at hok; exact hok
 | some i =>
  have h1 := (It (show F4 l s l.length = some i from h)).1
  have h2 := hi i h
  rw [h] at hok
  have h3 : i < m.length := by omega
  simp [h3] at h2
  simp [h3, hok, h2]
theorem Gz {I : Heap} {a b : Ty} {cs ds : List Value} (h : Rep I a.tree cs) (h' : Rep I b.tree ds) (L : Bo) : Fun Tryz.prog 131 [.agg cs.toArray, .agg ds.toArray] I L (E1 (.bool (decide (a = b))) I L) := by
 have := Q7 h h' L
 rwa [show decide (a.tree = b.tree) = decide (a = b) from by simp [Ty.tree_eq]] at this

theorem Vp {I : Heap} {l : List As} {m : List Ty} {oa ob : Option Addr} {c c' : Nat} (he : EnvAt I l m oa c ob c') {e : Ex} {cs : List Value} (h : Rep I e.tree cs) (hok : e.ok = true)
  {oh : Option Addr} {ts : List Ty} {ch : Nat} {L : Bo} (hh : Have I L oh ts) (hts : ts.length = (C3 e.tree).length) (hfn : ∀ f x s t b, e = .fn f x s t b → (Ty.fn s t).size ≤ 16) :
  Fun Tryz.prog 110 [.agg [.slice oa l.length c, .slice ob (m.map Ty.tree).length c'].toArray, .agg cs.toArray, .slice oh ts.length ch] I L (JO (e.raw ts l m) L) := by
 obtain ⟨oc, cc, oaf, cf, rfl, hf⟩ := h.at'
 have ha := hf.alen
 have hhn := hh.nil
 have hle0 : HLe I I := .refl _
 refine Ao Af ?_; refine Se rfl ?_; refine Cn rfl rfl .free rfl ?_; intro b3; refine Cn rfl rfl .free rfl ?_; intro b4; refine Aw .free rfl ?_; intro b6; refine Oa rfl (Ab (Se rfl ?_)); refine Ca rfl (Km [105] Ae _ _) ?_; rintro _ _ _ _ ⟨rfl, rfl, rfl⟩; refine Aw .free rfl ?_; intro b8; refine Bu rfl rfl rfl rfl .free ?_; refine Ab (Ah (Se rfl ?_)); refine A2 rfl .free rfl ?_; refine Ca rfl (Bq hf.rep _) ?_; rintro _ _ _ _ ⟨rfl, rfl, rfl⟩; refine Ab (Aq (Se rfl (Od rfl rfl rfl (Oa rfl (Ab ?_))))); refine A0 rfl ?_ ?_
 ·intro c0
  try simp only [nb] at c0
  have hb := Ex.of_nil c0
  refine Ah (Se rfl (Oh rfl ?_)); refine Bz rfl .free rfl ?_; refine Ca rfl (Kn e.tree.atom ha _ _) ?_; rintro _ _ _ _ ⟨rfl, rfl, rfl⟩; refine Ab ?_; refine A0 rfl ?_ ?_
  ·intro c1
   try simp only [nb] at c1
   refine Se rfl ?_; refine A2 rfl .free rfl ?_; refine Oh rfl ?_; refine Bz rfl .free rfl ?_; refine Ca rfl (Yr he.names (he.types.form [] Ae) (by simp [he.len]) e.tree.atom _) ?_; rintro _ _ _ _ ⟨t, cs1, ok, rfl, rfl, rfl, hrt, hok1, hi1⟩; obtain ⟨o1, k1, _, rfl, -⟩ := hrt.open; refine Oe rfl rfl (Oe rfl rfl ?_); refine Bu rfl rfl rfl rfl .free ?_; refine Oa rfl (Ab ?_); refine Al (.c rfl (.tmp rfl .nil)) ?_; refine ⟨I, L, .refl _, Bk, t, _, ok, rfl, hrt, rfl, ?_⟩
   cases e with
   | num s => have h1 := F5 (show B0 s = true from c1); rw [show C4 s = true from hok] at h1; cases h1
   | name s => exact Aem he.len hok1 hi1
   | _ => cases hb
  intro c1
  try simp only [nb] at c1
  refine Ak (Se rfl ?_); refine A2 rfl .free rfl ?_; refine Bu rfl rfl rfl rfl .free ?_; refine Oa rfl (Ab ?_); refine Al (.c rfl (.tmp rfl .nil)) ?_; refine ⟨I, L, .refl _, Bk, Ty.i.tree, _, true, rfl, Nb _, rfl, ?_⟩
  cases e with
  | num s => exact ⟨rfl, rfl⟩
  | name s => have h1 := c1.symm.trans (show B0 s = true from hok); cases h1
  | _ => cases hb
 intro c0
 try simp only [nb] at c0
 refine Ah (Se rfl (Od rfl rfl rfl (Oa rfl (Ab ?_)))); refine A0 rfl ?_ ?_
 ·intro c2
  try simp only [nb] at c2
  obtain ⟨a, b, rfl⟩ := Ex.of_bin (o := .add) c2; obtain ⟨s, t, rfl⟩ := Us (hts.trans (by rw [Fs]; rfl)); obtain ⟨o0, k0, r0, d0⟩ := hh.rep 0 Af; obtain ⟨o1, k1, r1, d1⟩ := hh.rep 1 Af
  simp only [List.getElem_cons_zero, List.getElem_cons_succ] at r0 r1 d0 d1
  refine Ak ?_
  first | refine St rfl (by first | assumption | omega) ?_ | refine Cx Av ?_
  refine Ah ?_; refine Dn 15 rfl rfl ?_; refine Dt 0 [13] rfl (Cd rfl) ?_; refine Da 1 rfl (Ag rfl) ?_
  first | refine Da 2 rfl (A3 rfl rfl 0 rfl) ?_ | refine Da 2 rfl (A4 rfl rfl 0 rfl) ?_
  refine Dt 3 [5, 6, 11, 13] rfl (B7 rfl) ?_; refine Dt 4 [5, 6, 11, 13] rfl (Cd rfl) ?_; refine Dc 5 rfl rfl (Gz r0 (Nb _) _) ?_; rintro _ _ _ _ ⟨rfl, rfl, rfl⟩; refine Hx ?_; refine Da 6 rfl (Ag rfl) ?_
  apply N3 34 40 rfl
  ·intro g10_7 hk
   try simp only [nb] at g10_7
   refine Dm 7 rfl (Ag rfl) ?_
   first | refine Dm 8 rfl (A3 rfl rfl 1 rfl) ?_ | refine Dm 8 rfl (A4 rfl rfl 1 rfl) ?_
   refine Ef 9 [11, 13] rfl Ad rfl Ap (B7 rfl) (.met rfl rfl) rfl ?_; refine Ef 10 [11, 13] rfl Ad rfl Ap (Cd rfl) (.met rfl rfl) rfl ?_; refine Gx 11 rfl Ad rfl rfl (.met rfl rfl) rfl (Gz r1 (Nb _) _) ?_; rintro _ _ _ _ ⟨rfl, rfl, rfl⟩; refine Hx ?_; refine Da 12 rfl (Dj rfl rfl) ?_
   exact F9 5 rfl rfl hk
  ·intro _ hk; refine Ds 7 rfl rfl rfl ?_; refine Ds 8 rfl rfl rfl ?_; refine Ds 9 rfl rfl rfl ?_; refine Ds 10 rfl rfl rfl ?_; refine Ds 11 rfl rfl rfl ?_; refine Da 12 rfl (Cu rfl rfl) ?_
   exact F9 5 rfl rfl hk
  refine Dx 13 rfl rfl rfl rfl ?_; refine Db 14 rfl (A5 rfl) ?_; refine At Ad ?_; refine Al (.c rfl (.tmp rfl .nil)) ?_
  exact ⟨I, L, .refl _, Bk, Ty.i.tree, _, _, rfl, Nb _, rfl, Xk (p := s = .i ∧ t = .i) Af⟩
 intro c2
 try simp only [nb] at c2
 refine Se rfl (Od rfl rfl rfl (Oa rfl (Ab ?_))); refine A0 rfl ?_ ?_
 ·intro c3
  try simp only [nb] at c3
  obtain ⟨a, b, rfl⟩ := Ex.of_bin (o := .sub) c3; obtain ⟨s, t, rfl⟩ := Us (hts.trans (by rw [Fs]; rfl)); obtain ⟨o0, k0, r0, d0⟩ := hh.rep 0 Af; obtain ⟨o1, k1, r1, d1⟩ := hh.rep 1 Af
  simp only [List.getElem_cons_zero, List.getElem_cons_succ] at r0 r1 d0 d1
  refine Ak ?_
  first | refine St rfl (by first | assumption | omega) ?_ | refine Cx Av ?_
  refine Ah ?_; refine Dn 15 rfl rfl ?_; refine Dt 0 [13] rfl (Cd rfl) ?_; refine Da 1 rfl (Ag rfl) ?_
  first | refine Da 2 rfl (A3 rfl rfl 0 rfl) ?_ | refine Da 2 rfl (A4 rfl rfl 0 rfl) ?_
  refine Dt 3 [5, 6, 11, 13] rfl (B7 rfl) ?_; refine Dt 4 [5, 6, 11, 13] rfl (Cd rfl) ?_; refine Dc 5 rfl rfl (Gz r0 (Nb _) _) ?_; rintro _ _ _ _ ⟨rfl, rfl, rfl⟩; refine Hx ?_; refine Da 6 rfl (Ag rfl) ?_
  apply N3 34 40 rfl
  ·intro g10_7 hk
   try simp only [nb] at g10_7
   refine Dm 7 rfl (Ag rfl) ?_
   first | refine Dm 8 rfl (A3 rfl rfl 1 rfl) ?_ | refine Dm 8 rfl (A4 rfl rfl 1 rfl) ?_
   refine Ef 9 [11, 13] rfl Ad rfl Ap (B7 rfl) (.met rfl rfl) rfl ?_; refine Ef 10 [11, 13] rfl Ad rfl Ap (Cd rfl) (.met rfl rfl) rfl ?_; refine Gx 11 rfl Ad rfl rfl (.met rfl rfl) rfl (Gz r1 (Nb _) _) ?_; rintro _ _ _ _ ⟨rfl, rfl, rfl⟩; refine Hx ?_; refine Da 12 rfl (Dj rfl rfl) ?_
   exact F9 5 rfl rfl hk
  ·intro _ hk; refine Ds 7 rfl rfl rfl ?_; refine Ds 8 rfl rfl rfl ?_; refine Ds 9 rfl rfl rfl ?_; refine Ds 10 rfl rfl rfl ?_; refine Ds 11 rfl rfl rfl ?_; refine Da 12 rfl (Cu rfl rfl) ?_
   exact F9 5 rfl rfl hk
  refine Dx 13 rfl rfl rfl rfl ?_; refine Db 14 rfl (A5 rfl) ?_; refine At Ad ?_; refine Al (.c rfl (.tmp rfl .nil)) ?_
  exact ⟨I, L, .refl _, Bk, Ty.i.tree, _, _, rfl, Nb _, rfl, Xk (p := s = .i ∧ t = .i) Af⟩
 intro c3
 try simp only [nb] at c3
 refine Am rfl (Od rfl rfl rfl (Oa rfl (Ab ?_))); refine A0 rfl ?_ ?_
 ·intro c4
  try simp only [nb] at c4
  obtain ⟨a, b, rfl⟩ := Ex.of_bin (o := .mul) c4; obtain ⟨s, t, rfl⟩ := Us (hts.trans (by rw [Fs]; rfl)); obtain ⟨o0, k0, r0, d0⟩ := hh.rep 0 Af; obtain ⟨o1, k1, r1, d1⟩ := hh.rep 1 Af
  simp only [List.getElem_cons_zero, List.getElem_cons_succ] at r0 r1 d0 d1
  refine Ah ?_; refine Dn 15 rfl rfl ?_; refine Dt 0 [13] rfl (Cd rfl) ?_; refine Da 1 rfl (Ag rfl) ?_
  first | refine Da 2 rfl (A3 rfl rfl 0 rfl) ?_ | refine Da 2 rfl (A4 rfl rfl 0 rfl) ?_
  refine Dt 3 [5, 6, 11, 13] rfl (B7 rfl) ?_; refine Dt 4 [5, 6, 11, 13] rfl (Cd rfl) ?_; refine Dc 5 rfl rfl (Gz r0 (Nb _) _) ?_; rintro _ _ _ _ ⟨rfl, rfl, rfl⟩; refine Hx ?_; refine Da 6 rfl (Ag rfl) ?_
  apply N3 34 40 rfl
  ·intro g10_7 hk
   try simp only [nb] at g10_7
   refine Dm 7 rfl (Ag rfl) ?_
   first | refine Dm 8 rfl (A3 rfl rfl 1 rfl) ?_ | refine Dm 8 rfl (A4 rfl rfl 1 rfl) ?_
   refine Ef 9 [11, 13] rfl Ad rfl Ap (B7 rfl) (.met rfl rfl) rfl ?_; refine Ef 10 [11, 13] rfl Ad rfl Ap (Cd rfl) (.met rfl rfl) rfl ?_; refine Gx 11 rfl Ad rfl rfl (.met rfl rfl) rfl (Gz r1 (Nb _) _) ?_; rintro _ _ _ _ ⟨rfl, rfl, rfl⟩; refine Hx ?_; refine Da 12 rfl (Dj rfl rfl) ?_
   exact F9 5 rfl rfl hk
  ·intro _ hk; refine Ds 7 rfl rfl rfl ?_; refine Ds 8 rfl rfl rfl ?_; refine Ds 9 rfl rfl rfl ?_; refine Ds 10 rfl rfl rfl ?_; refine Ds 11 rfl rfl rfl ?_; refine Da 12 rfl (Cu rfl rfl) ?_
   exact F9 5 rfl rfl hk
  refine Dx 13 rfl rfl rfl rfl ?_; refine Db 14 rfl (A5 rfl) ?_; refine At Ad ?_; refine Al (.c rfl (.tmp rfl .nil)) ?_
  exact ⟨I, L, .refl _, Bk, Ty.i.tree, _, _, rfl, Nb _, rfl, Xk (p := s = .i ∧ t = .i) Af⟩
 intro c4
 try simp only [nb] at c4
 refine Se rfl (Od rfl rfl rfl (Oa rfl (Ab ?_))); refine A0 rfl ?_ ?_
 ·intro c5
  try simp only [nb] at c5
  obtain ⟨a, b, d, rfl⟩ := Ex.of_if c5; obtain ⟨s, t, u, rfl⟩ := Agf hts; obtain ⟨o0, k0, r0, d0⟩ := hh.rep 0 Af; obtain ⟨o1, k1, r1, d1⟩ := hh.rep 1 Af; obtain ⟨o2, k2, r2, d2⟩ := hh.rep 2 Af
  simp only [List.getElem_cons_zero, List.getElem_cons_succ] at r0 r1 r2 d0 d1 d2
  refine Ah ?_; refine Dn 19 rfl rfl ?_; refine Da 0 rfl (Ag rfl) ?_
  first | refine Da 1 rfl (A3 rfl rfl 1 rfl) ?_ | refine Da 1 rfl (A4 rfl rfl 1 rfl) ?_
  refine Dt 2 [17] rfl (B7 rfl) ?_; refine Da 3 rfl (Ag rfl) ?_
  first | refine Da 4 rfl (A3 rfl rfl 0 rfl) ?_ | refine Da 4 rfl (A4 rfl rfl 0 rfl) ?_
  refine Dt 5 [7, 8, 15, 17] rfl (B7 rfl) ?_; refine Dt 6 [7, 8, 15, 17] rfl (Cd rfl) ?_; refine Dc 7 rfl rfl (Gz r0 (Nb _) _) ?_; rintro _ _ _ _ ⟨rfl, rfl, rfl⟩; refine Hx ?_; refine Da 8 rfl (Ag rfl) ?_
  apply N3 51 59 rfl
  ·intro g12_9 hk
   try simp only [nb] at g12_9
   refine Dm 9 rfl (Ag rfl) ?_
   first | refine Dm 10 rfl (A3 rfl rfl 1 rfl) ?_ | refine Dm 10 rfl (A4 rfl rfl 1 rfl) ?_
   refine Ef 11 [15, 17] rfl Ad rfl Ap (B7 rfl) (.met rfl rfl) rfl ?_; refine Dm 12 rfl (Ag rfl) ?_
   first | refine Dm 13 rfl (A3 rfl rfl 2 rfl) ?_ | refine Dm 13 rfl (A4 rfl rfl 2 rfl) ?_
   refine Ef 14 [15, 17] rfl Ad rfl Ap (B7 rfl) (.met rfl rfl) rfl ?_; refine Gx 15 rfl Ad rfl rfl (.met rfl rfl) rfl (Gz r1 r2 _) ?_; rintro _ _ _ _ ⟨rfl, rfl, rfl⟩; refine Hx ?_; refine Da 16 rfl (Dj rfl rfl) ?_
   exact F9 7 rfl rfl hk
  ·intro _ hk; refine Ds 9 rfl rfl rfl ?_; refine Ds 10 rfl rfl rfl ?_; refine Ds 11 rfl rfl rfl ?_; refine Ds 12 rfl rfl rfl ?_; refine Ds 13 rfl rfl rfl ?_; refine Ds 14 rfl rfl rfl ?_; refine Ds 15 rfl rfl rfl ?_; refine Da 16 rfl (Cu rfl rfl) ?_
   exact F9 7 rfl rfl hk
  refine Dx 17 rfl rfl rfl rfl ?_; refine Db 18 rfl (A5 rfl) ?_; refine At Ad ?_; refine Al (.c rfl (.tmp rfl .nil)) ?_
  exact ⟨I, L, .refl _, Bk, t.tree, _, _, rfl, r1, rfl, Xk (p := s = .i ∧ t = u) Af⟩
 intro c5
 try simp only [nb] at c5
 refine Se rfl (Od rfl rfl rfl (Oa rfl (Ab ?_))); refine A0 rfl ?_ ?_
 ·intro c6
  try simp only [nb] at c6
  obtain ⟨x, a, b, rfl⟩ := Ex.of_let c6; obtain ⟨s, t, rfl⟩ := Us hts; obtain ⟨o1, k1, r1, d1⟩ := hh.rep 1 Af
  simp only [List.getElem_cons_zero, List.getElem_cons_succ] at r1 d1
  refine Se rfl (Om rfl ?_)
  first | refine Bx rfl rfl 1 rfl .free rfl ?_ | refine By rfl rfl 1 rfl .free rfl ?_
  refine Fy rfl .free rfl ?_; refine Bu rfl rfl rfl rfl .free ?_; refine Oa rfl (Ab ?_); refine Al (.c rfl (.tmp rfl .nil)) ?_
  exact ⟨I, L, .refl _, Bk, t.tree, _, _, rfl, r1, rfl, rfl, rfl⟩
 intro c6
 try simp only [nb] at c6
 refine Se rfl (Od rfl rfl rfl (Oa rfl (Ab ?_))); refine A0 rfl ?_ ?_
 ·intro c7
  try simp only [nb] at c7
  obtain ⟨f, x, s, t, b, rfl⟩ := Ex.of_fun c7; obtain ⟨u, rfl⟩ := Aff hts; obtain ⟨o0, k0, r0, d0⟩ := hh.rep 0 Af
  simp only [List.getElem_cons_zero, List.getElem_cons_succ] at r0 d0
  have hlen : (Ex.fn f x s t b).tree.parts.length = 6 := rfl
  refine Ah ?_; refine Dn 12 rfl rfl ?_; refine Dt 0 [10] rfl (Cd rfl) ?_; refine Da 2 rfl (Ag rfl) ?_
  first | refine Da 3 rfl (A3 rfl rfl 0 rfl) ?_ | refine Da 3 rfl (A4 rfl rfl 0 rfl) ?_
  refine Dt 4 [9, 10] rfl (B7 rfl) ?_; refine Da 5 rfl (Aj rfl) ?_; refine Dt 6 [7, 8, 9, 10] rfl (Bc rfl) ?_
  first | refine Da 7 rfl (A3 rfl rfl 4 rfl) ?_ | refine Da 7 rfl (A4 rfl rfl 4 rfl) ?_
  refine Dt 8 [9, 10] rfl (B7 rfl) ?_; refine Dc 1 rfl rfl (P9 hf.rep _) ?_; rintro _ J1 _ e1 ⟨cs1, rfl, h1, rfl⟩; obtain ⟨o1, k1, _, rfl, -⟩ := h1.open
  have hf := hf.mono e1
  have r0 := r0.mono e1
  have d0 := O5 e1 d0
  refine Hx ?_; refine Dc 9 rfl rfl (Gz r0 (hf.as 4 t.tree Aa rfl) _) ?_; rintro _ _ _ _ ⟨rfl, rfl, rfl⟩; refine Hx ?_; refine Dx 10 rfl rfl rfl rfl ?_; refine Db 11 rfl (A5 rfl) ?_; refine At Ad ?_; refine Al (.c rfl (.tmp rfl .nil)) ?_
  exact ⟨J1, L, e1, Bk, (Ty.fn s t).tree, _, _, rfl, h1, rfl, Xk (p := u = t) Af⟩
 intro c7
 try simp only [nb] at c7
 refine Se rfl (Od rfl rfl rfl (Oa rfl (Ab ?_))); refine A0 rfl ?_ ?_
 ·intro c8
  try simp only [nb] at c8
  obtain ⟨a, b, rfl⟩ := Ex.of_bin (o := .call) c8; obtain ⟨s, t, rfl⟩ := Us (hts.trans (by rw [Fs]; rfl)); obtain ⟨o0, k0, r0, d0⟩ := hh.rep 0 Af; obtain ⟨o1, k1, r1, d1⟩ := hh.rep 1 Af
  simp only [List.getElem_cons_zero, List.getElem_cons_succ] at r0 r1 d0 d1
  obtain ⟨o2, k2, of2, cf2, hc2, hf2⟩ := r0.at'
  simp only [List.cons.injEq, Value.slice.injEq, and_true, true_and] at hc2
  obtain ⟨rfl, rfl⟩ := hc2
  have hfn2 := hf2.nil
  refine Ah (Ah ?_); refine Dn 18 rfl rfl ?_; refine Da 0 rfl (Ag rfl) ?_
  first | refine Da 1 rfl (A3 rfl rfl 0 rfl) ?_ | refine Da 1 rfl (A4 rfl rfl 0 rfl) ?_
  refine Dt 2 [18] rfl (B7 rfl) ?_; refine Dc 3 rfl rfl (Np r0 [62] 3 _) ?_; rintro _ _ _ _ ⟨rfl, rfl, rfl⟩; refine Hx ?_; refine Da 4 rfl (Jy rfl) ?_; refine Da 5 rfl (Ag rfl) ?_
  apply Aaa 84 96 rfl
  ·intro g18_6 hk
   try simp only [nb] at g18_6
   have hp2 : s.tree.parts.length = 3 := by obtain ⟨s1, s2, rfl⟩ := Ty.is_fn.1 g18_6; rfl
   refine Dm 6 rfl (Ag rfl) ?_
   first | refine Dm 7 rfl (A3 rfl rfl 0 rfl) ?_ | refine Dm 7 rfl (A4 rfl rfl 0 rfl) ?_
   refine Dm 8 rfl (Bi rfl) ?_; refine Ef 9 [18] rfl Ad rfl Ap (I6 rfl) (.met rfl rfl) rfl ?_
   first | refine Dm 10 rfl (A3 rfl rfl 1 rfl) ?_ | refine Dm 10 rfl (A4 rfl rfl 1 rfl) ?_
   refine Ef 11 [18] rfl Ad rfl Ap (B7 rfl) (.met rfl rfl) rfl ?_; refine Dm 12 rfl (Ag rfl) ?_
   first | refine Dm 13 rfl (A3 rfl rfl 1 rfl) ?_ | refine Dm 13 rfl (A4 rfl rfl 1 rfl) ?_
   refine Ef 14 [18] rfl Ad rfl Ap (B7 rfl) (.met rfl rfl) rfl ?_; refine Gx 15 rfl Ad rfl rfl (.met rfl rfl) rfl (Q7 (hf2.rp 1 Aa) r1 _) ?_; rintro _ _ _ _ ⟨rfl, rfl, rfl⟩; refine Hx ?_; refine Dm 16 rfl (Jy rfl) ?_; refine Da 17 rfl (Cu rfl rfl) ?_
   exact F9 11 rfl rfl hk
  ·intro _ hk; refine Ds 6 rfl rfl rfl ?_; refine Ds 7 rfl rfl rfl ?_; refine Ds 8 rfl rfl rfl ?_; refine Ds 9 rfl rfl rfl ?_; refine Ds 10 rfl rfl rfl ?_; refine Ds 11 rfl rfl rfl ?_; refine Ds 12 rfl rfl rfl ?_; refine Ds 13 rfl rfl rfl ?_; refine Ds 14 rfl rfl rfl ?_; refine Ds 15 rfl rfl rfl ?_; refine Ds 16 rfl rfl rfl ?_; refine Da 17 rfl (Dj rfl rfl) ?_
   exact F9 11 rfl rfl hk
  refine At Ad ?_; refine A0 rfl ?_ ?_
  ·intro c9
   try simp only [nb] at c9
   refine Se rfl ?_; refine Cg rfl rfl rfl .free rfl ?_; refine Bu rfl rfl rfl rfl .free ?_; refine Oa rfl (Ab ?_); refine Al (.c rfl (.tmp rfl .nil)) ?_; refine ⟨I, L, .refl _, Bk, Xq, _, _, rfl, Nx _, rfl, ?_⟩
   have : (Ex.bin .call a b).raw [s, t] l m = none := by
    cases s with
    | fn s1 s2 =>
     have hs : ¬ s1 = t := by
      intro h
      rcases c9 with h1 | h2
      ·have := Ty.is_fn.2 ⟨s1, s2, rfl⟩; rw [h1] at this; cases this
      ·exact h2 (congrArg Ty.tree h)
     exact if_neg hs
    | _ => rfl
   rw [this]
  intro c9
  try simp only [nb] at c9
  obtain ⟨s1, s2, rfl⟩ := Ty.is_fn.1 c9.1
  have hp2 : (Ty.fn s1 s2).tree.parts.length = 3 := rfl
  refine Ak (Se rfl (Om rfl ?_))
  first | refine Bx rfl rfl 0 rfl .free rfl ?_ | refine By rfl rfl 0 rfl .free rfl ?_
  refine Bg rfl .free rfl ?_; refine Gb rfl .free rfl ?_
  first | refine Bx rfl rfl 2 rfl .free rfl ?_ | refine By rfl rfl 2 rfl .free rfl ?_
  refine Fy rfl .free rfl ?_; refine Bu rfl rfl rfl rfl .free ?_; refine Oa rfl (Ab ?_); refine Al (.c rfl (.tmp rfl .nil)) ?_; refine ⟨I, L, .refl _, Bk, s2.tree, _, _, rfl, hf2.as 2 s2.tree Aa rfl, rfl, ?_⟩
  have : (Ex.bin .call a b).raw [.fn s1 s2, t] l m = some s2 := if_pos (Ty.tree_inj (show s1.tree = t.tree from c9.2))
  rw [this]; exact ⟨rfl, rfl⟩
 intro c8
 try simp only [nb] at c8
 refine Se rfl (Od rfl rfl rfl (Oa rfl (Ab ?_))); refine A0 rfl ?_ ?_
 ·intro c10
  try simp only [nb] at c10
  obtain ⟨a, b, rfl⟩ := Ex.of_bin (o := .pair) c10; obtain ⟨s, t, rfl⟩ := Us (hts.trans (by rw [Fs]; rfl)); obtain ⟨o0, k0, r0, d0⟩ := hh.rep 0 Af; obtain ⟨o1, k1, r1, d1⟩ := hh.rep 1 Af
  simp only [List.getElem_cons_zero, List.getElem_cons_succ] at r0 r1 d0 d1
  refine Ah ?_; refine Dn 10 rfl rfl ?_; refine Da 0 rfl (Ag rfl) ?_
  first | refine Da 1 rfl (A3 rfl rfl 0 rfl) ?_ | refine Da 1 rfl (A4 rfl rfl 0 rfl) ?_
  refine Dt 2 [8] rfl (B7 rfl) ?_; refine Da 3 rfl (Ag rfl) ?_
  first | refine Da 4 rfl (A3 rfl rfl 1 rfl) ?_ | refine Da 4 rfl (A4 rfl rfl 1 rfl) ?_
  refine Dt 5 [8] rfl (B7 rfl) ?_; refine C5 6 rfl Ad rfl rfl rfl Ac Ac Ac Ae Ae Ac .free rfl (.inr Ap) ?_; intro b112; refine Cp ?_; intro hz
  have hfs := L4 (c := 2) (b := b112) (RepL.two r0 r1) hz Af Be
  refine Dc 7 rfl rfl (Sl [42] Ae hfs Be _) ?_; rintro _ J2 _ e2 ⟨cs2, rfl, h2, rfl⟩
  have e3 := hz.trans e2
  obtain ⟨o2, k2, _, rfl, -⟩ := h2.open; refine Hx ?_; refine Dx 8 rfl rfl rfl rfl ?_; refine Db 9 rfl (A5 rfl) ?_; refine At Ad ?_; refine Al (.c rfl (.tmp rfl .nil)) ?_
  exact ⟨J2, L, e3, Bk, (Ty.pr s t).tree, _, _, rfl, h2, rfl, rfl, rfl⟩
 intro c10
 try simp only [nb] at c10
 obtain ⟨o, a, rfl⟩ : ∃ o a, e = .un o a := by
  rcases Ex.of_other c0 c6 c5 c7 with ⟨o, a, b, rfl⟩ | h
  ·cases o
   ·exact absurd rfl c2
   ·exact absurd rfl c3
   ·exact absurd rfl c4
   ·exact absurd rfl c8
   ·exact absurd rfl c10
  ·exact h
 obtain ⟨s, rfl⟩ := Aff (hts.trans (by rw [H4]; rfl)); obtain ⟨o0, k0, r0, d0⟩ := hh.rep 0 Af
 simp only [List.getElem_cons_zero] at r0 d0
 obtain ⟨o2, k2, of2, cf2, hc2, hf2⟩ := r0.at'
 simp only [List.cons.injEq, Value.slice.injEq, and_true, true_and] at hc2
 obtain ⟨rfl, rfl⟩ := hc2
 have hfn2 := hf2.nil
 refine Ak (Ar (Ah (Se rfl (Om rfl ?_))))
 first | refine Bx rfl rfl 0 rfl .free rfl ?_ | refine By rfl rfl 0 rfl .free rfl ?_
 refine Fy rfl .free rfl ?_; refine Ca rfl (Np r0 [42] 3 _) ?_; rintro _ _ _ _ ⟨rfl, rfl, rfl⟩; refine Ec rfl .free rfl ?_; refine Ab ?_; refine A0 rfl ?_ ?_
 ·intro c11
  try simp only [nb] at c11
  refine Se rfl ?_; refine Cg rfl rfl rfl .free rfl ?_; refine Bu rfl rfl rfl rfl .free ?_; refine Oa rfl (Ab ?_); refine Al (.c rfl (.tmp rfl .nil)) ?_; refine ⟨I, L, .refl _, Bk, Xq, _, _, rfl, Nx _, rfl, ?_⟩
  have : (Ex.un o a).raw [s] l m = none := by
   cases s with
   | pr s1 s2 => have := Ty.is_pr.2 ⟨s1, s2, rfl⟩; rw [c11] at this; cases this
   | _ => cases o <;> rfl
  rw [this]
 intro c11
 try simp only [nb] at c11
 obtain ⟨s1, s2, rfl⟩ := Ty.is_pr.1 c11
 have hp2 : (Ty.pr s1 s2).tree.parts.length = 3 := rfl
 refine Ak (Ah (Se rfl ?_)); refine A2 rfl .free rfl ?_; refine Ca rfl (Bq hf.rep _) ?_; rintro _ _ _ _ ⟨rfl, rfl, rfl⟩; refine Od rfl rfl rfl (Ab ?_); refine A0 rfl ?_ ?_
 ·intro c12
  try simp only [nb] at c12
  refine Se rfl (Om rfl ?_)
  first | refine Bx rfl rfl 0 rfl .free rfl ?_ | refine By rfl rfl 0 rfl .free rfl ?_
  refine Bg rfl .free rfl ?_; refine Gb rfl .free rfl ?_
  first | refine Bx rfl rfl 1 rfl .free rfl ?_ | refine By rfl rfl 1 rfl .free rfl ?_
  refine Fy rfl .free rfl ?_; refine Bu rfl rfl rfl rfl .free ?_; refine Oa rfl (Ab ?_); refine Al (.c rfl (.tmp rfl .nil)) ?_; refine ⟨I, L, .refl _, Bk, s1.tree, _, _, rfl, hf2.as 1 s1.tree Aa rfl, rfl, ?_⟩; obtain rfl : o = .fst := by cases o; rfl; exact absurd (show G4 = G3 from c12) Ae
  exact ⟨rfl, rfl⟩
 intro c12
 try simp only [nb] at c12
 refine Ak (Se rfl (Om rfl ?_))
 first | refine Bx rfl rfl 0 rfl .free rfl ?_ | refine By rfl rfl 0 rfl .free rfl ?_
 refine Bg rfl .free rfl ?_; refine Gb rfl .free rfl ?_
 first | refine Bx rfl rfl 2 rfl .free rfl ?_ | refine By rfl rfl 2 rfl .free rfl ?_
 refine Fy rfl .free rfl ?_; refine Bu rfl rfl rfl rfl .free ?_; refine Oa rfl (Ab ?_); refine Al (.c rfl (.tmp rfl .nil)) ?_; refine ⟨I, L, .refl _, Bk, s2.tree, _, _, rfl, hf2.as 2 s2.tree Aa rfl, rfl, ?_⟩; obtain rfl : o = .snd := by cases o; exact absurd rfl c12; rfl
 exact ⟨rfl, rfl⟩
end Go.Proofs.YtmfagaajiakgoaaGreatDoor
