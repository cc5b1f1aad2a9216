/- The normal one of an expression: how far the numbers go. No conditions. -/
import Derived.Test.YtmfagaajiakgoaaGreatDoorG12

namespace Go.Proofs.YtmfagaajiakgoaaGreatDoor
set_option maxRecDepth 100000
set_option linter.unusedVariables false
set_option linter.unusedSimpArgs false

theorem X6 {c : UInt8} {av av' : List As} (h : ∀ j, nm c j ∈ av → nm c j ∈ av') : ∀ n, E3 c av n ≤ E3 c av' n
 | 0 => Nat.le_refl _
 | n + 1 => by
  rw [Je, Je]
  have := X6 h n
  by_cases h1 : nm c n ∈ av
  ·rw [if_pos h1, if_pos (h n h1)]; omega
  ·rw [if_neg h1]; omega
def Ex.lv : Ex → List As
 | .num _ => []
 | .name s => [s]
 | .bin _ a b => a.lv ++ b.lv
 | .ite a b c => a.lv ++ b.lv ++ c.lv
 | .lt _ a b => a.lv ++ b.lv
 | .fn _ _ _ _ b => b.lv
 | .un _ a => a.lv
theorem Ex.lv_size : ∀ e : Ex, 3 * e.lv.length ≤ 2 * e.size + 1
 | .num _ => by simp [Ex.lv]
 | .name _ => by simp [Ex.lv, Ex.size]
 | .bin _ a b => by have := a.lv_size; have := b.lv_size; simp only [Ex.lv, List.length_append, Ex.size]; omega
 | .ite a b c => by have := a.lv_size; have := b.lv_size; have := c.lv_size; simp only [Ex.lv, List.length_append, Ex.size]; omega
 | .lt _ a b => by have := a.lv_size; have := b.lv_size; simp only [Ex.lv, List.length_append, Ex.size]; omega
 | .fn _ _ _ _ b => by have := b.lv_size; simp only [Ex.lv, Ex.size]; omega
 | .un _ a => by have := a.lv_size; simp only [Ex.lv, Ex.size]; omega
def Ex.bx : Ex → Bool
 | .num _ => true
 | .name _ => true
 | .bin _ a b => a.bx && b.bx
 | .ite a b c => a.bx && b.bx && c.bx
 | .lt x a b => decide (x.head? ≠ some 121) && a.bx && b.bx
 | .fn f x _ _ b => decide (f.head? ≠ some 121) && decide (x.head? ≠ some 121) && b.bx
 | .un _ a => a.bx
theorem Ex.pl_bx (av : List As) : ∀ (e : Ex) (f t : List As) (n : Nat), (e.pl av f t n).1.bx = true
 | .num s, f, t, n => rfl
 | .name s, f, t, n => rfl
 | .bin o a b, f, t, n => by simp only [Ex.pl, Ex.bx, a.pl_bx, b.pl_bx, Bool.and_self]
 | .ite a b c, f, t, n => by simp only [Ex.pl, Ex.bx, a.pl_bx, b.pl_bx, c.pl_bx, Bool.and_self]
 | .lt x a b, f, t, n => by simp only [Ex.pl, Ex.bx, a.pl_bx, b.pl_bx, nm, List.head?_cons, Bool.and_true]; rfl
 | .fn g x s u b, f, t, n => by simp only [Ex.pl, Ex.bx, b.pl_bx, nm, List.head?_cons, Bool.and_true]; rfl
 | .un o a, f, t, n => by simp only [Ex.pl, Ex.bx, a.pl_bx]
theorem Ty.atom_y : ∀ {t : Ty} {s : As}, s ∈ t.tree.atomL → s.head? ≠ some 121
 | .i, s, h => by simp only [Ty.tree, Tree.atomL, List.mem_singleton] at h; subst h; decide
 | .fn a b, s, h => by
  simp only [Ty.tree, Tree.atomL, Do, List.mem_append, List.mem_singleton, List.append_nil] at h
  rcases h with h | h | h
  ·subst h; decide
  ·exact Ty.atom_y h
  ·exact Ty.atom_y h
 | .pr a b, s, h => by
  simp only [Ty.tree, Tree.atomL, Do, List.mem_append, List.mem_singleton, List.append_nil] at h
  rcases h with h | h | h
  ·subst h; decide
  ·exact Ty.atom_y h
  ·exact Ty.atom_y h
theorem B5.head_y (o : B5) : o.txt.head? ≠ some 121 := by cases o <;> decide
theorem U2.head_y (o : U2) : o.txt.head? ≠ some 121 := by cases o <;> decide
theorem Ad1 {s : As} (h : Ci s = true) : s.head? ≠ some 121 := by
 cases s with
 | nil => simp
 | cons c r =>
  intro e
  simp only [List.head?_cons, Option.some.injEq] at e
  subst e
  have e : Ef (121 :: r) = 121 :: r := by simp [Ef]
  simp only [Ci, e] at h
  simp [E6] at h
theorem Ex.atom_lv : ∀ {e : Ex} {s : As}, e.ok = true → e.bx = true → s ∈ e.tree.atomL → s.head? = some 121 → s ∈ e.lv
 | .num a, s, h, _, hs, hy => by
  simp only [Ex.tree, Tree.atomL, List.mem_singleton] at hs; subst hs
  exact absurd hy (Ad1 h)
 | .name a, s, h, _, hs, hy => by simpa only [Ex.tree, Tree.atomL, Ex.lv] using hs
 | .bin o a b, s, h, hb, hs, hy => by
  simp only [Ex.ok, Ex.bx, Bool.and_eq_true] at h hb
  simp only [Ex.tree, Tree.atomL, Do, List.mem_append, List.mem_singleton, List.append_nil] at hs
  simp only [Ex.lv, List.mem_append]
  rcases hs with hs | hs | hs
  ·subst hs; exact absurd hy o.head_y
  ·exact .inl (Ex.atom_lv h.1 hb.1 hs hy)
  ·exact .inr (Ex.atom_lv h.2 hb.2 hs hy)
 | .ite a b c, s, h, hb, hs, hy => by
  simp only [Ex.ok, Ex.bx, Bool.and_eq_true] at h hb
  simp only [Ex.tree, Tree.atomL, Do, List.mem_append, List.mem_singleton, List.append_nil] at hs
  simp only [Ex.lv, List.mem_append]
  rcases hs with hs | hs | hs | hs
  ·subst hs; exact absurd hy (by decide)
  ·exact .inl (.inl (Ex.atom_lv h.1.1 hb.1.1 hs hy))
  ·exact .inl (.inr (Ex.atom_lv h.1.2 hb.1.2 hs hy))
  ·exact .inr (Ex.atom_lv h.2 hb.2 hs hy)
 | .lt x a b, s, h, hb, hs, hy => by
  simp only [Ex.ok, Ex.bx, Bool.and_eq_true, decide_eq_true_eq] at h hb
  simp only [Ex.tree, Tree.atomL, Do, List.mem_append, List.mem_singleton, List.append_nil] at hs
  simp only [Ex.lv, List.mem_append]
  rcases hs with hs | hs | hs | hs
  ·subst hs; exact absurd hy (by decide)
  ·subst hs; exact absurd hy hb.1.1
  ·exact .inl (Ex.atom_lv h.1.2 hb.1.2 hs hy)
  ·exact .inr (Ex.atom_lv h.2 hb.2 hs hy)
 | .fn f x t u b, s, h, hb, hs, hy => by
  simp only [Ex.ok, Ex.bx, Bool.and_eq_true, decide_eq_true_eq] at h hb
  simp only [Ex.tree, Tree.atomL, Do, List.mem_append, List.mem_singleton, List.append_nil] at hs
  simp only [Ex.lv]
  rcases hs with hs | hs | hs | hs | hs | hs
  ·subst hs; exact absurd hy (by decide)
  ·subst hs; exact absurd hy hb.1.1
  ·subst hs; exact absurd hy hb.1.2
  ·exact absurd hy (Ty.atom_y hs)
  ·exact absurd hy (Ty.atom_y hs)
  ·exact Ex.atom_lv h.2 hb.2 hs hy
 | .un o a, s, h, hb, hs, hy => by
  simp only [Ex.tree, Tree.atomL, Do, List.mem_append, List.mem_singleton, List.append_nil] at hs
  rcases hs with hs | hs
  ·subst hs; exact absurd hy o.head_y
  ·exact Ex.atom_lv (e := a) h hb hs hy
def Ex.tk (e : Ex) : List As := C8 [] e.plain.tree.atomL
def Ex.made (e : Ex) : MK := e.plain.mk e.tk 0
def Ex.normal (e : Ex) : Ex := e.made.all
theorem Mt (e : Ex) : e.plain.size = e.size := (e.pl_size e.free [] [] 0).1
theorem Ag0 (e : Ex) : e.tk.length ≤ e.size := by
 have h := Rc [] e.plain.tree.atomL
 rw [Tree.atomL_len, Ex.tree_size, Mt] at h
 simpa [Ex.tk] using h
theorem N0 {e : Ex} (h : e.fine = true) : e.made.g ≤ 119 ∧ e.made.n ≤ 240 ∧ e.tk.length ≤ 120 := by
 have hf := G5 h
 simp only [Ex.fine, Bool.and_eq_true, decide_eq_true_eq, Tree.fits] at h
 have h1 := Ag0 e
 have h2 := e.plain.mk_g e.tk 0
 have h3 := e.plain.mk_hits e.tk 0
 have h4 := MK.n_le h3
 rw [Mt] at h2
 unfold Ex.made
 omega
theorem N1 {e : Ex} (h : e.fine = true) : e.normal.ok = true := by
 have hf := G5 h
 have h0 := N0 h
 simp only [Ex.fine, Bool.and_eq_true, decide_eq_true_eq, Tree.fits] at hf
 have h1 := Ex.mk_ok (tk := e.tk) (n := 0) hf.1.1 Aa
 exact Ni h1.1 h1.2
theorem Rl (e : Ex) : e.normal.size = e.size + 3 * e.made.g := by
 unfold Ex.normal
 rw [MK.all_size]
 unfold Ex.made
 rw [Ex.mk_size, Mt]
theorem Rk {e : Ex} (h : e.fine = true) (hn : e.normal.fine = true) : e.made.g ≤ 100 ∧ e.made.n ≤ 100 := by
 have hf := G5 h
 have hs := Rl e
 simp only [Ex.fine, Bool.and_eq_true, decide_eq_true_eq, Tree.fits] at hf hn
 have h3 := e.plain.mk_hits e.tk 0
 have h4 : E3 121 e.tk (e.plain.mk e.tk 0).n ≤ E3 121 e.plain.lv (e.plain.mk e.tk 0).n := X6 (fun j hj => by
  have hj : nm 121 j ∈ C8 [] e.plain.tree.atomL := hj
  rw [Hh] at hj
  rcases hj with hj | hj
  ·cases hj
  ·exact Ex.atom_lv hf.1.1 (Ex.pl_bx _ _ _ _ _) hj rfl) _
 have h5 := Bp 121 e.plain.lv (e.plain.mk e.tk 0).n
 have h6 := e.plain.lv_size
 rw [Mt] at h6
 have h7 : E3 121 e.tk 0 = 0 := rfl
 unfold Ex.made at *
 omega
theorem Afw {e : Ex} (h : e.fine = true) : ∀ s ∈ e.tk, s.length ≤ Bg := Un (by have := G5 h; simp only [Ex.fine, Bool.and_eq_true, decide_eq_true_eq, Tree.fits] at this; have := this.2.2; omega)
theorem O3 {e : Ex} (h : e.fine = true) : e.normal.tree.len ≤ 12000 := by
 have h1 := Ex.len_size (N1 h)
 have h2 := Rl e
 have h3 := N0 h
 simp only [Ex.fine, Bool.and_eq_true, decide_eq_true_eq] at h
 omega
def Tb (s : As) : Option As := (Fo s).bind fun e => if e.normal.fine = true then some e.normal.tree.text else none
theorem Qs {s : As} (h : Fo s = none) : Tb s = none := by unfold Tb; rw [h]; rfl
theorem Qt {s : As} {e : Ex} (h : Fo s = some e) : Tb s = if e.normal.fine = true then some e.normal.tree.text else none := by unfold Tb; rw [h]; rfl
theorem Zd {e : Ex} (h : e.closed = true) : e.occ [] = [] := by unfold Ex.closed at h; simpa using h
theorem closed_free {s : As} {e : Ex} (h : Cr s = some e) : Nb s = some [] := by
 obtain ⟨h1, h2, h3, h4, h5⟩ := Iz h
 unfold Nb
 rw [h1]
 have : e.free = [] := by unfold Ex.free; rw [Zd h5]; rfl
 simp [this]
structure Aaa (P : Program) (kf : FuncId) (cap : List Value) (X : Type) (own : X → Bj) (R : X → List As → Heap → Prop) : Prop where
 tell : ∀ x seen s I L, R x seen I → s.length ≤ Bg → seen.length < 4294967296 → Fun P kf (.string (str s) :: cap) I (own x ++ L) (fun v I' L' => v = .tuple #[] ∧ ∃ y, R y (seen ++ [s]) I' ∧ L' = own y ++ L)
 mono : ∀ x seen I I', HLe I I' → R x seen I → R x seen I'
structure GX (X : Type) where
 i : Nat
 x : X
 J : Heap
theorem V4 {kf : FuncId} {cap : List Value} {X : Type} {own : X → Bj} {R : X → List As → Heap → Prop} {c0 : Code} {m0' : Nat} {rs0 : List ResultVar} [hfi : Bq Tryz.prog kf c0 m0' rs0] (T : Aaa Tryz.prog kf cap X own R) :
  ∀ (n : Nat) {I : Heap} {t : Tree} {cs : List Value} (_ : SizeOf.sizeOf t < n) (_ : Rep I t cs) (x : X) (seen : List As) (_ : seen.length + t.size ≤ 4294967296) (_ : R x seen I) (L : Bj),
  Fun Tryz.prog 120 [.agg cs.toArray, .func (.func kf) #[] cap.toArray] I (own x ++ L) (TP own R (seen ++ t.atomL) L) := by
 intro n
 induction n with
 | zero => intro I t cs h; omega
 | succ n ihn =>
  intro I t cs hlt h x seen hsl hx L; obtain ⟨oa, c, oaf, cf, rfl, hf⟩ := h.at'
  have ha := hf.alen
  have hp := hf.len
  unfold Bg at hp
  refine Ao Ae ?_; refine Se rfl ?_; refine Cm rfl rfl .free rfl ?_; intro b2; refine Ab (Ah (Se rfl ?_)); refine Az rfl .free rfl ?_; refine Ca rfl (B8 hf.rep _) ?_; rintro _ _ _ _ ⟨rfl, rfl, rfl⟩; refine Ab ?_; refine A6 rfl ?_ ?_
  ·intro c0
   try simp only [nb] at c0
   have hps : t.parts = [] := by simpa using c0
   refine Al rfl (Om rfl (Oh rfl ?_)); refine Bv rfl .free rfl ?_; refine C4 (fun w h => h.u1) ?_; refine Aaq rfl rfl .free rfl (T.tell x seen t.atom _ _ hx ha (by have := t.size_one; omega)) ?_; rintro _ J _ e1 ⟨rfl, x, hx, rfl⟩; refine C4 (fun w h => h.w1) ?_; obtain ⟨s0, hs0, hx⟩ : ∃ s0, s0 ++ Do t.parts = t.atomL ∧ R x (seen ++ s0) J := ⟨[t.atom], by rw [hps, Sd t hps]; rfl, hx⟩
   have hf := hf.mono e1
   have hle := e1
   refine Ab (Ah ?_)
   have hsz : s0.length + (Do t.parts).length = t.size := by rw [← t.atomL_len, ← hs0, List.length_append]
   refine Al rfl (Oh rfl ?_); refine Bv rfl .free rfl ?_; refine On rfl (Om rfl (Ab (Aq ?_)))
   refine Dn (X := GX X) (fun y => t.parts.length - y.i) (fun y => [(1, .func (.func kf) #[] cap.toArray), (13, .slice oa t.parts.length c), (14, .int .i64 (t.parts.length : Nat)), (15, .int .i64 (y.i : Nat))]) (fun y => y.J) (fun y => (b2, .cells [.string (str t.atom), .slice oa t.parts.length c].toArray 49 (0, 0)) :: (own y.x ++ L)) (fun y => y.i ≤ t.parts.length ∧ HLe I y.J ∧ R y.x (seen ++ s0 ++ Do (t.parts.take y.i)) y.J) ⟨0, x, _⟩ ⟨Nat.zero_le _, hle, by simpa [Do] using hx⟩ ⟨rfl, rfl, rfl, rfl, trivial⟩ (by intro _ h; exact h) ?_; rintro ⟨i, x1, J1⟩ ⟨hi, hle1, hx1⟩ ih
   simp only at hi hle1 hx1 ih ⊢
   have hf1 := h.mono hle1
   refine Se rfl (Oc rfl rfl rfl (Ab (Ah ?_))); refine A6 rfl ?_ ?_
   ·intro c1
    try simp only [nb] at c1
    have hi1 : i < t.parts.length := by omega
    have hall := M7 t.parts i hi1
    have hle3 : (Do (t.parts.take i)).length + (t.pt i).size ≤ (Do t.parts).length := by
     rw [Tree.pt_at hi1]
     have h1 := H1 (t.parts.take i) (t.parts.drop i)
     rw [List.take_append_drop, List.drop_eq_getElem_cons hi1] at h1
     simp only [Eu] at h1
     rw [If, If]; omega
    obtain ⟨oa2, c2, oaf2, cf2, he2, hf2⟩ := hf1.at'
    simp only [List.cons.injEq, Value.slice.injEq, and_true, true_and] at he2
    obtain ⟨rfl, rfl⟩ := he2; refine Ak (Ah (Aq (Se rfl ?_)))
    first | refine Bs rfl rfl _ rfl .free rfl ?_ | refine Bt rfl rfl _ rfl .free rfl ?_
    refine Gv rfl .free rfl ?_; refine A1 .free rfl ?_; intro b5; refine By rfl rfl rfl rfl .free ?_; refine Ab (Al rfl ?_); refine Az rfl .free rfl ?_; refine Om rfl ?_; refine C4 (fun w h => h.u2) ?_; refine Ca rfl (ihn (t := t.pt i) (by have := t.pt_lt i hi1; omega) (hf2.rp i hi1) x1 _ (by simp only [List.length_append]; omega) hx1 _) ?_; rintro _ J2 _ e2 ⟨rfl, x2, hx2, rfl⟩; refine C4 (fun w h => h.w1.drop.w1) ?_; refine Ab (Ap (Al rfl ?_)); refine Or rfl rfl rfl ?_; refine Om rfl (Ab ?_)
    refine Ed (E' := [(1, .func (.func kf) #[] cap.toArray), (13, .slice oa t.parts.length c), (14, .int .i64 (t.parts.length : Nat)), (15, .int .i64 ((i + 1 : Nat)))]) ⟨rfl, rfl, rfl, rfl, trivial⟩ (ih ⟨i + 1, x2, J2⟩ ⟨by simp only; omega, hle1.trans e2, by simp only; rw [hall, ← List.append_assoc, ← Tree.pt_at hi1]; exact hx2⟩ Dq)
   intro c1
   try simp only [nb] at c1
   refine Cc rfl ?_; refine Ju .nil ?_
   have hi0 : i = t.parts.length := by omega
   subst hi0; rw [List.take_length, List.append_assoc, hs0] at hx1
   exact ⟨J1, _, hle1, fun w h => h.drop, rfl, x1, hx1, rfl⟩
  intro c0
  try simp only [nb] at c0
  have hne : t.parts ≠ [] := by simpa using c0
  obtain ⟨s0, hs0, hx⟩ : ∃ s0, s0 ++ Do t.parts = t.atomL ∧ R x (seen ++ s0) I := ⟨[], by rw [Um t hne]; rfl, by rw [List.append_nil]; exact hx⟩
  have hle : HLe I I := .refl _
  refine Ak (Ah ?_)
  have hsz : s0.length + (Do t.parts).length = t.size := by rw [← t.atomL_len, ← hs0, List.length_append]
  refine Al rfl (Oh rfl ?_); refine Bv rfl .free rfl ?_; refine On rfl (Om rfl (Ab (Aq ?_)))
  refine Dn (X := GX X) (fun y => t.parts.length - y.i) (fun y => [(1, .func (.func kf) #[] cap.toArray), (13, .slice oa t.parts.length c), (14, .int .i64 (t.parts.length : Nat)), (15, .int .i64 (y.i : Nat))]) (fun y => y.J) (fun y => (b2, .cells [.string (str t.atom), .slice oa t.parts.length c].toArray 49 (0, 0)) :: (own y.x ++ L)) (fun y => y.i ≤ t.parts.length ∧ HLe I y.J ∧ R y.x (seen ++ s0 ++ Do (t.parts.take y.i)) y.J) ⟨0, x, _⟩ ⟨Nat.zero_le _, hle, by simpa [Do] using hx⟩ ⟨rfl, rfl, rfl, rfl, trivial⟩ (by intro _ h; exact h) ?_; rintro ⟨i, x1, J1⟩ ⟨hi, hle1, hx1⟩ ih
  simp only at hi hle1 hx1 ih ⊢
  have hf1 := h.mono hle1
  refine Se rfl (Oc rfl rfl rfl (Ab (Ah ?_))); refine A6 rfl ?_ ?_
  ·intro c1
   try simp only [nb] at c1
   have hi1 : i < t.parts.length := by omega
   have hall := M7 t.parts i hi1
   have hle3 : (Do (t.parts.take i)).length + (t.pt i).size ≤ (Do t.parts).length := by
    rw [Tree.pt_at hi1]
    have h1 := H1 (t.parts.take i) (t.parts.drop i)
    rw [List.take_append_drop, List.drop_eq_getElem_cons hi1] at h1
    simp only [Eu] at h1
    rw [If, If]; omega
   obtain ⟨oa2, c2, oaf2, cf2, he2, hf2⟩ := hf1.at'
   simp only [List.cons.injEq, Value.slice.injEq, and_true, true_and] at he2
   obtain ⟨rfl, rfl⟩ := he2; refine Ak (Ah (Aq (Se rfl ?_)))
   first | refine Bs rfl rfl _ rfl .free rfl ?_ | refine Bt rfl rfl _ rfl .free rfl ?_
   refine Gv rfl .free rfl ?_; refine A1 .free rfl ?_; intro b5; refine By rfl rfl rfl rfl .free ?_; refine Ab (Al rfl ?_); refine Az rfl .free rfl ?_; refine Om rfl ?_; refine C4 (fun w h => h.u2) ?_; refine Ca rfl (ihn (t := t.pt i) (by have := t.pt_lt i hi1; omega) (hf2.rp i hi1) x1 _ (by simp only [List.length_append]; omega) hx1 _) ?_; rintro _ J2 _ e2 ⟨rfl, x2, hx2, rfl⟩; refine C4 (fun w h => h.w1.drop.w1) ?_; refine Ab (Ap (Al rfl ?_)); refine Or rfl rfl rfl ?_; refine Om rfl (Ab ?_)
   refine Ed (E' := [(1, .func (.func kf) #[] cap.toArray), (13, .slice oa t.parts.length c), (14, .int .i64 (t.parts.length : Nat)), (15, .int .i64 ((i + 1 : Nat)))]) ⟨rfl, rfl, rfl, rfl, trivial⟩ (ih ⟨i + 1, x2, J2⟩ ⟨by simp only; omega, hle1.trans e2, by simp only; rw [hall, ← List.append_assoc, ← Tree.pt_at hi1]; exact hx2⟩ Dq)
  intro c1
  try simp only [nb] at c1
  refine Cc rfl ?_; refine Ju .nil ?_
  have hi0 : i = t.parts.length := by omega
  subst hi0; rw [List.take_length, List.append_assoc, hs0] at hx1
  exact ⟨J1, _, hle1, fun w h => h.drop, rfl, x1, hx1, rfl⟩
def FB.met (bm bq bo : Nat) (x : FB) : Bj := (bm, .cells [.map (some bq)].toArray 137 (0, 0)) :: (bq, G3 x.l) :: (bo, .cells [Bm x.l.length x.c x.B].toArray 33 (0, 0)) :: A2 9 (x.l.map sv) x.B
def FB.ats (x : FB) (seen : List As) (I : Heap) : Prop := x.l = C8 [] seen ∧ Dd 1 x.l.length x.c (x.l.map sv) x.B ∧ ∀ s ∈ x.l, s.length ≤ Bg
def nz (b bq g n : Nat) : Nat × Obj := (b, .cells [.map (some bq), .int .i64 (g : Nat), .int .i64 (n : Nat)].toArray 139 (0, 0))
structure NZ where
 ns : W4
 B : Kg
 c : Nat
 xs : List Value
structure NZ.ok (I : Heap) (x : NZ) : Prop where
 buf : Dd 3 x.ns.length x.c x.xs x.B
 rep : BindL I x.ns x.xs
theorem NZ.ok.mono {I I' : Heap} {x : NZ} (hle : HLe I I') (h : x.ok I) : x.ok I' := ⟨h.buf, h.rep.mono hle⟩
def NZ.own (b bq : Nat) (tk : List As) (g n bn : Nat) (x : NZ) (L : Bj) : Bj :=
 nz b bq g n :: (bq, G3 tk) :: (bn, .cells [Bm x.ns.length x.c x.B].toArray 173 (0, 0)) :: (A2 199 x.xs x.B ++ L)
def NP (b bq : Nat) (tk : List As) (g bn : Nat) (x : NZ) (p : MK) (L : Bj) : Cv := fun v I' L' => ∃ cs y, v = .agg (List.toArray cs) ∧ Rep I' p.e.tree cs ∧ NZ.ok I' y ∧ y.ns = x.ns ++ p.ns ∧ L' = y.own b bq tk (g + p.g) p.n bn L
theorem O0 {I : Heap} (ht : Tab I) (tk : List As) (b bq g n : Nat) (hn : n + tk.length ≤ 1000 + E3 121 tk n) (h3 : n ≤ 1000) (hg : g ≤ 1000) (L : Bj) :
  Fun Tryz.prog 208 [.pointer (some ⟨b, 0, none⟩)] I (nz b bq g n :: (bq, G3 tk) :: L) (fun v I' L' => v = .string (str (nm 121 (fr 121 tk n))) ∧ I = I' ∧ L' = nz b bq (g + 1) (fr 121 tk n + 1) :: (bq, G3 tk) :: L) := by
 obtain ⟨f1, f2, f3⟩ := Dv 121 tk n
 have f4 := Bp 121 tk (fr 121 tk n)
 refine Ao Ae ?_; refine Se rfl (Oa rfl (Ab (Aq ?_))); refine Dn (X := Nat) (fun m => fr 121 tk n + 1 - m) (fun m => [(0, .pointer (some ⟨b, 0, none⟩))]) (fun _ => I) (fun m => nz b bq g m :: (bq, G3 tk) :: L) (fun m => n ≤ m ∧ m ≤ fr 121 tk n ∧ ∀ j, n ≤ j → j < m → nm 121 j ∈ tk) n ⟨Nat.le_refl _, f2, fun j h1 h2 => absurd h2 Aa⟩ ⟨rfl, trivial⟩ (fun _ h => h) ?_; rintro m ⟨hm1, hm2, hm3⟩ ih
 unfold nz
 have hdl := R1 (n := m) Aa
 refine Aq (Se rfl (Om rfl ?_)); refine Aw rfl .free rfl ?_
 first | refine Oh rfl ?_ | refine Oj rfl ?_
 refine L8 rfl .free rfl ?_; refine Ca rfl (Ic ht (m : Nat) Aa Aa _) ?_; rintro _ _ _ _ ⟨rfl, rfl, rfl⟩; rw [Adm]; refine Ok rfl rfl ?_; refine Oa rfl (Ab (Se rfl (Om rfl ?_))); refine Aw rfl .free rfl ?_
 first | refine Oh rfl ?_ | refine Oj rfl ?_
 refine L8 rfl .free rfl ?_; refine Or rfl rfl rfl ?_; refine Aw rfl .free rfl ?_
 first | refine Oh rfl ?_ | refine Oj rfl ?_
 refine By rfl rfl rfl rfl .free ?_; refine Ab (Se rfl (Om rfl ?_)); refine Aw rfl .free rfl ?_
 first | refine Oh rfl ?_ | refine Oj rfl ?_
 refine Cp rfl (El (cs := [.map (some bq), .int .i64 (g : Nat), .int .i64 ((m : Int) + 1)]) m0 Ac rfl) .free rfl ?_; refine Om rfl ?_; refine Ad7 (s := nm 121 m) (m := tk) rfl rfl ⟨_, rfl, rfl⟩ (fun w h => (h.2.1 _ m1).1) .free rfl ?_; refine Ei rfl .free rfl ?_; refine Ab ?_; refine A6 rfl ?_ ?_
 ·intro c0
  try simp only [nb] at c0
  refine Se rfl (Om rfl ?_); refine Aw rfl .free rfl ?_
  first | refine Oh rfl ?_ | refine Oj rfl ?_
  refine L8 rfl .free rfl ?_; refine Or rfl rfl rfl ?_; refine Aw rfl .free rfl ?_
  first | refine Oh rfl ?_ | refine Oj rfl ?_
  refine By rfl rfl rfl rfl .free ?_; refine Ab (Se rfl (Om rfl (Oa rfl (Ab (Am (.tmp rfl .nil) ?_)))))
  have hfm : fr 121 tk n = m := R3 hm3 hm1 c0
  exact ⟨I, _, .refl _, fun _ h => h, by rw [hfm]; rfl, rfl, by rw [hfm]; rfl⟩
 intro c0
 try simp only [nb] at c0
 refine Ak (Ap ?_)
 have hne : m ≠ fr 121 tk n := fun e => f1 (e ▸ c0)
 refine Ed (E' := [(0, .pointer (some ⟨b, 0, none⟩))]) ⟨rfl, trivial⟩ (ih (m + 1) ⟨by omega, by omega, fun j h1 h2 => ?_⟩ Aa)
 by_cases hj : j = m
 ·subst hj; exact c0
 ·exact hm3 j h1 Aa
def M2 (N : Nat) : Prop := ∀ {I : Heap} (_ : Tab I) {e : Ex} {cs : List Value} (_ : SizeOf.sizeOf e < N) (_ : Rep I e.tree cs) (_ : e.ok = true) (tk : List As) (b bq bn g n : Nat) (_ : n + e.size + tk.length ≤ 900 + E3 121 tk n) (_ : g + e.size ≤ 1000) (x : NZ) (_ : x.ok I) (_ : x.ns.length + e.size ≤ 100000) (L : Bj),
 Fun Tryz.prog 167 [.pointer (some ⟨b, 0, none⟩), .agg cs.toArray, .pointer (some ⟨bn, 0, none⟩)] I (x.own b bq tk g n bn L) (NP b bq tk g bn x (e.mk tk n) L)
theorem Pt {N : Nat} (ih : M2 N) {I : Heap} (ht : Tab I) {e : Ex} {cs : List Value} (hlt : SizeOf.sizeOf e < N) (h : Rep I e.tree cs) (hok : e.ok = true) (tk : List As) (b bq bn g n : Nat) (hn : n + e.size + tk.length ≤ 900 + E3 121 tk n) (hg : g + e.size ≤ 1000) (x : NZ) (hx : x.ok I) (hxl : x.ns.length + e.size ≤ 100000) (L : Bj) :
  Fun Tryz.prog 198 [.pointer (some ⟨b, 0, none⟩), .agg cs.toArray, .pointer (some ⟨bn, 0, none⟩)] I (x.own b bq tk g n bn L) (NP b bq tk g bn x ((e.mk tk n).pt tk) L) := by
 obtain ⟨oa, c, oaf, cf, rfl, hf⟩ := h.at'
 have hmo := Ex.mk_ok (tk := tk) (n := n) hok hn
 have hmh := e.mk_hits tk n
 have hmg := e.mk_g tk n
 have hml := e.mk_len tk n
 have hh0 := Bp 121 tk n
 have hh1 := Bp 121 tk (e.mk tk n).n
 generalize hp : e.mk tk n = p at *
 unfold NZ.own
 refine Ao Ae ?_; refine Se rfl ?_; refine Cm rfl rfl .free rfl ?_; intro b4; refine A1 .free rfl ?_; intro b6; refine Ab (Se rfl (Om rfl ?_)); refine Az rfl .free rfl ?_; refine Om rfl ?_; refine C4 (fun w h => Mem.kv2 h) ?_; refine Ca rfl (ih ht hlt hf.rep hok tk b bq bn g n hn hg x hx hxl _) ?_; rw [hp]; rintro _ J1 _ e1 ⟨cs1, y, rfl, hr, hy, hyn, rfl⟩; obtain ⟨o1, k1, _, rfl, -⟩ := hr.open
 have hyl : y.ns.length = x.ns.length + p.ns.length := by rw [hyn]; simp
 obtain ⟨a1, k2, hu1⟩ := Af1 hy.buf
 unfold NZ.own
 refine C4 (fun w h => Mem.vk2 h) ?_; rw [hu1]; refine A1 .free rfl ?_; intro b7; refine By rfl rfl rfl rfl .free ?_; refine Ab (Ah (Se rfl ?_)); refine Az rfl .free rfl ?_; refine Ca rfl (B8 hr _) ?_; rintro _ _ _ _ ⟨rfl, rfl, rfl⟩; refine Ab ?_; refine A6 rfl ?_ ?_
 ·intro c0
  try simp only [nb] at c0
  have hb : p.e.bare = true := by rw [Ex.bare_parts]; simpa using c0
  refine Se rfl ?_; refine Az rfl .free rfl ?_; refine By rfl rfl rfl rfl .free ?_; refine Ab ?_; refine Am (.c rfl .nil) ?_; refine ⟨J1, _, e1, fun w h => Mem.sub (L' := nz _ _ _ _ :: _ :: _ :: (A2 199 y.xs y.B ++ L)) A7 h, _, y, rfl, by unfold MK.pt; rw [if_pos hb]; exact hr, hy, by unfold MK.pt; rw [if_pos hb]; exact hyn, ?_⟩
  unfold MK.pt NZ.own; rw [if_pos hb, hu1]
 intro c0
 try simp only [nb] at c0
 have hb : p.e.bare = false := by rw [Ex.bare_parts]; simpa using c0
 have ht := ht.mono e1
 refine Ak (Se rfl (Om rfl ?_)); refine C4 (fun w h => Mem.nq3 h) ?_; refine Ca rfl (O0 ht tk b bq (g + p.g) p.n Aa Aa Aa _) ?_; rintro _ _ _ _ ⟨rfl, rfl, rfl⟩
 have hfr := Dv 121 tk p.n
 have hfr2 := Bp 121 tk (fr 121 tk p.n)
 have hnl : (nm 121 (fr 121 tk p.n)).length ≤ Bg := Ex.name_len (Mm Ad Aa)
 generalize hn1e : nm 121 (fr 121 tk p.n) = n1 at hnl ⊢
 have hpt : p.pt tk = ⟨.name n1, p.ns ++ [(n1, p.e)], fr 121 tk p.n + 1, p.g + 1⟩ := by unfold MK.pt; rw [if_neg (by rw [hb]; simp), hn1e]
 rw [hpt]; refine Oa rfl (Ab (Ah ?_)); refine Ag8 11 rfl rfl ?_; refine Da 0 rfl (Ai rfl) ?_; refine Da 1 rfl (Ai rfl) ?_; refine Da 2 rfl (Cb rfl) ?_; refine Dt 3 [10] rfl (P8 rfl) ?_; refine Da 4 rfl (Ai rfl) ?_; refine Dt 5 [10] rfl (Ea rfl) ?_; refine Da 6 rfl (H9 rfl rfl rfl) ?_; refine Fg 7 rfl Af rfl rfl rfl Ac Ac Ac Ad Ad Ac .free rfl (.inr Au) ?_; intro b25
 refine Cg 8 (B := y.B) (xs := y.xs) (ys := [.string (str n1), .string (str p.e.tree.atom), .slice o1 p.e.tree.parts.length k1]) (m := y.ns.length) (c := y.c) rfl Af rfl Av Ac (by rw [hu1]; rfl) rfl hy.buf (fun _ h => h.uu7) Ac (fun a ha => by cases ha; exact Bw (.head _) Ac) Ae Ac Ad Aa Ad .free rfl (fun _ => .inr Au) ?_; intro B2 c3 hB2; obtain ⟨bq2, sq, rfl⟩ : ∃ bq sq, B2 = some (bq, sq) := by
  cases B2 with
  | none => exact absurd hB2.1 Ae
  | some z => exact ⟨z.1, z.2, rfl⟩
 simp only [A2, List.cons_append, List.nil_append]
 refine Da 9 rfl (Cb rfl) ?_; refine Dx 10 rfl rfl rfl rfl ?_ (hu := Ahm); refine A5 Af ?_; refine Se rfl (Om rfl ?_); refine Ca rfl (Li n1 hnl _ _) ?_; rintro _ _ _ _ ⟨rfl, rfl, rfl⟩; refine By rfl rfl rfl rfl .free ?_; refine Ab ?_; refine Am (.c rfl .nil) ?_; refine ⟨J1, _, e1, fun w h => Mem.w3 (Mem.sub (L' := (bq2, _) :: nz _ _ _ _ :: _ :: (bn, _) :: L) A7 h), _, ⟨y.ns ++ [(n1, p.e)], some (bq2, sq), c3, y.xs ++ [.string (str n1), .string (str p.e.tree.atom), .slice o1 p.e.tree.parts.length k1]⟩, rfl, .ofAtom hnl, ⟨by simpa using hB2, hy.rep.append (.cons hnl hr .nil)⟩, ?_, ?_⟩
 ·simp only [hyn, List.append_assoc]
 ·simp only [NZ.own, nz, A2, Bm, List.append_assoc, List.length_append, List.length_cons, List.length_nil, List.cons_append, List.nil_append, Nat.add_assoc]
section
variable {I : Heap} {a b c d q s x u v : Nat × Obj} {X L R : Bj} {w : World}
theorem Mem.let5 (h : Mem I (q :: s :: x :: u :: v :: a :: b :: c :: L) w) : Mem I (a :: b :: c :: q :: s :: x :: u :: v :: L) w := h.perm (List.perm_append_comm_assoc [q, s, x, u, v] [a, b, c] L)
theorem Mem.uu4 (h : Mem I (a :: b :: c :: d :: (X ++ L)) w) : Mem I (X ++ a :: b :: c :: d :: L) w := h.perm (List.perm_append_comm_assoc [a, b, c, d] X L)
end
def NW (b bq : Nat) (tk : List As) (g : Nat) (p : MK) (L : Bj) : Cv := fun v I' L' => ∃ cs, v = .agg (List.toArray cs) ∧ Rep I' p.all.tree cs ∧ L' = nz b bq (g + p.g) p.n :: (bq, G3 tk) :: L
theorem Mo {N : Nat} (ih : M2 N) {I : Heap} (ht : Tab I) {e : Ex} {cs : List Value} (hlt : SizeOf.sizeOf e < N) (h : Rep I e.tree cs) (hok : e.ok = true) (tk : List As) (b bq g n : Nat) (hn : n + e.size + tk.length ≤ 900 + E3 121 tk n) (hg : g + e.size ≤ 1000) (hz : e.size ≤ 1000) (L : Bj) :
  Fun Tryz.prog 122 [.pointer (some ⟨b, 0, none⟩), .agg cs.toArray] I (nz b bq g n :: (bq, G3 tk) :: L) (NW b bq tk g (e.mk tk n) L) := by
 obtain ⟨oa, c, oaf, cf, rfl, hf⟩ := h.at'
 have hml := e.mk_len tk n
 refine Ao Ae ?_; refine Se rfl ?_; refine Cm rfl rfl .free rfl ?_; intro b3; refine A1 .free rfl ?_; intro b4; refine Ab (Se rfl ?_); refine A1 .free rfl ?_; intro b5; refine Ab (Se rfl (Om rfl ?_)); refine Az rfl .free rfl ?_; refine C4 (fun w h => Mem.nq3 h) ?_; refine Ca rfl (ih ht hlt hf.rep hok tk b bq b5 g n hn hg ⟨[], none, 0, []⟩ ⟨⟨rfl, rfl, rfl⟩, .nil⟩ (by simp only [List.length_nil]; omega) (_ :: _ :: L)) ?_; rintro _ J1 _ e1 ⟨cs1, y, rfl, hr, hy, hyn, rfl⟩; obtain ⟨o1, k1, _, rfl, -⟩ := hr.open; rw [List.nil_append] at hyn
 unfold NZ.own
 refine A1 .free rfl ?_; intro b6; refine By rfl rfl rfl rfl .free ?_; refine Ab (Ah ?_); refine Cu (fun w h => Mem.uu4 h) (Uh hy.rep hy.buf rfl (by rw [hyn]; unfold Bg; omega) ?_); intro J2 ob cb e2 hbv hbs; rw [hbv]; refine Al rfl ?_; refine Bv rfl .free rfl ?_; refine Az rfl .free rfl ?_; refine Ca rfl (Abc hbs (hr.mono e2) _) ?_; rintro _ J3 _ e3 ⟨cs3, rfl, hr3, rfl⟩; obtain ⟨o3, k3, _, rfl, -⟩ := hr3.open; refine By rfl rfl rfl rfl .free ?_; refine Ab ?_; refine Am (.c rfl .nil) ?_
 refine ⟨J3, _, (e1.trans e2).trans e3, fun w h => Mem.sub (L' := nz _ _ _ _ :: _ :: L) A7 h, _, rfl, ?_, rfl⟩
 show Rep J3 (Fu (e.mk tk n).ns (e.mk tk n).e).tree _
 rw [← hyn]; exact hr3
set_option maxHeartbeats 1000000 in
theorem Abt {N : Nat} (ihn : M2 N) {o : B5} {a b : Ex} {I : Heap} (ht : Tab I) {cs : List Value} (hlt : SizeOf.sizeOf (Ex.bin o a b) < N + 1) (h : Rep I (Ex.bin o a b).tree cs) (hok : (Ex.bin o a b).ok = true) (tk : List As) (b0 bq bn g n : Nat) (hn : n + (Ex.bin o a b).size + tk.length ≤ 900 + E3 121 tk n) (hg : g + (Ex.bin o a b).size ≤ 1000) (x : NZ) (hx : x.ok I) (hxl : x.ns.length + (Ex.bin o a b).size ≤ 100000) (L : Bj) :
  Fun Tryz.prog 167 [.pointer (some ⟨b0, 0, none⟩), .agg cs.toArray, .pointer (some ⟨bn, 0, none⟩)] I (x.own b0 bq tk g n bn L) (NP b0 bq tk g bn x ((Ex.bin o a b).mk tk n) L) := by
 obtain ⟨oa, c, oaf, cf1, rfl, hf, hcl, hcs⟩ := h.cells
 have hle : HLe I I := .refl _
 have hh0 := Bp 121 tk n
 have hpos : 0 < (Ex.bin o a b).tree.parts.length := by show 0 < 3; decide
 obtain ⟨xa, rfl⟩ : ∃ xa, oa = some xa := ⟨_, En hf.nil hpos⟩
 have hlen : (Ex.bin o a b).tree.parts.length = 3 := rfl
 have hp := hf.len
 have hpe : (Ex.bin o a b).tree.parts.isEmpty = false := rfl
 have hpe2 : ¬ (Ex.bin o a b).tree.parts = [] := fun e => by rw [e] at hlen; cases hlen
 have hki := L5 o a b
 have hhd : (Ex.bin o a b).tree.head = o.txt := rfl
 have hxl2 : ¬ (Ex.bin o a b).tree.head = [108, 101, 116] := o.txt_ne.2.1
 have hxl2d : ¬ o.txt = [108, 101, 116] := o.txt_ne.2.1
 have hxf : ¬ (Ex.bin o a b).tree.head = [102, 117, 110] := o.txt_ne.2.2.1
 have hxfd : ¬ o.txt = [102, 117, 110] := o.txt_ne.2.2.1
 have hxi : ¬ (Ex.bin o a b).tree.head = [105, 102] := o.txt_ne.1
 have hxid : ¬ o.txt = [105, 102] := o.txt_ne.1
 simp only [Ex.bin.sizeOf_spec] at hlt
 simp only [Ex.ok, Bool.and_eq_true, decide_eq_true_eq] at hok
 simp only [Ex.size] at hn hg hxl
 simp only [Ex.mk]
 unfold NZ.own
 refine Ao Ae ?_; refine Se rfl ?_; refine Cm rfl rfl .free rfl ?_; intro b4; refine A1 .free rfl ?_; intro b6; refine Ab (Ah (Se rfl ?_)); refine Az rfl .free rfl ?_; refine Ca rfl (B8 hf.rep _) ?_; rintro _ _ _ _ ⟨rfl, rfl, rfl⟩; refine Ab ?_
 first | refine Ez rfl (hpe) ?_ | refine Ey rfl (hpe) ?_ | refine A0 Ar ?_
 refine Ak (Ah (Se rfl ?_)); refine Az rfl .free rfl ?_; refine Ca rfl (Bl hf.rep _) ?_; rintro _ _ _ _ ⟨rfl, rfl, rfl⟩; refine Od rfl rfl rfl (Ab ?_)
 first | refine Ez rfl hxl2 ?_ | refine Ey rfl hxl2 ?_ | refine A0 Ar ?_
 refine Ak (Se rfl (Oh rfl ?_)); refine Bv rfl .free rfl ?_; refine Ca rfl (Hn (hcs _ rfl) Ff hcl.plain hpos hp _) ?_; rintro _ _ _ _ ⟨bc, sp, cc, rfl, hcc, rfl, rfl⟩
 simp only [show (Ex.bin o a b).tree.parts = [.node o.txt [], a.tree, b.tree] from rfl, D7, List.cons_append, List.nil_append]
 refine Cd rfl rfl rfl .free rfl ?_; refine A1 .free rfl ?_; intro b8; refine By rfl rfl rfl rfl .free ?_; refine Ab (Ah (Se rfl ?_)); refine Az rfl .free rfl ?_; refine Ca rfl (Du hf.rep _) ?_; rintro _ J _ e0 ⟨ok, ck, rfl, hk1, rfl⟩
 have hf := hf.mono e0
 have ht := ht.mono e0
 have hx := hx.mono e0
 have hle := hle.trans e0
 rw [hki] at hk1; rw [hki]; refine On rfl (Om rfl (Ab (Aq ?_))); refine Ee ?_; refine Se rfl (Oc rfl rfl rfl (Ab (Ah ?_))); refine B6 rfl Ay ?_; refine Ak (Ah (Aq (Se rfl ?_)))
 first | refine Bs rfl rfl _ rfl .free rfl ?_ | refine Bt rfl rfl _ rfl .free rfl ?_
 refine Er rfl .free rfl ?_; refine Oa rfl (Ab (Se rfl ?_)); refine Az rfl .free rfl ?_; refine Ca rfl (Bl hf.rep _) ?_; rintro _ _ _ _ ⟨rfl, rfl, rfl⟩; refine Od rfl rfl rfl (Om rfl ?_)
 apply G4 59 67 rfl
 ·intro g11_4 hk
  try simp only [nb] at g11_4
  refine Az rfl (.met rfl rfl) rfl ?_; refine Cx rfl (.met rfl rfl) rfl (Bl hf.rep _) ?_; rintro _ _ _ _ ⟨rfl, rfl, rfl⟩; refine F9 rfl rfl rfl (.met rfl rfl) rfl ?_; refine Ow rfl ?_
  apply Fr 63 66 rfl
  ·intro g11_8 hk
   try simp only [nb] at g11_8
   refine Ow rfl ?_; refine D8 rfl rfl rfl (.met rfl rfl) rfl ?_; refine Em rfl rfl (.met rfl rfl) rfl ?_
   exact Bb 2 rfl rfl hk
  ·intro _ hk; refine Br 2 rfl ?_; refine D5 rfl rfl (.met rfl rfl) rfl ?_
   exact Bb 2 rfl rfl hk
  refine Of rfl rfl ?_
  exact Bb 5 rfl rfl hk
 ·intro _ hk; refine Br 7 rfl ?_; refine Ot rfl rfl ?_
  exact Bb 7 rfl rfl hk
 refine Ab ?_
 first | refine Ez rfl Im ?_ | refine Ey rfl Im ?_ | refine A0 Ar ?_
 refine C9 fun hlr => ?_
 have g1 := a.mk_g tk n
 have mh1 := a.mk_hits tk n
 have gp1 := MK.pt_g tk _ g1.1 g1.2
 have mp1 := MK.pt_hits tk _ mh1
 have lp1 := MK.pt_len tk _ (a.mk_len tk n)
 have hz1 := Bp 121 tk n
 refine Ae5 13 rfl rfl ?_; refine Da 0 rfl (Aj rfl) ?_; refine Dt 1 [12] rfl (Bo rfl) ?_; refine Da 2 rfl (Ai rfl) ?_; refine Da 3 rfl (Ai rfl) ?_; refine Da 4 rfl (Aj rfl) ?_; refine Dt 5 [12] rfl (Bo rfl) ?_; refine Da 6 rfl (Ai rfl) ?_
 first | refine Da 7 rfl (Bc rfl rfl _ rfl) ?_ | refine Da 7 rfl (Bd rfl rfl _ rfl) ?_
 refine Dt 8 [12] rfl (C5 rfl) ?_; refine Da 9 rfl (Ai rfl) ?_; refine Bn (fun w h => Mem.kv4 h) ?_; refine Dc 10 rfl rfl (Pt ihn ht Aa (hf.as 1 a.tree Aa rfl) hok.1 tk b0 bq bn (g) n Aa Aa x hx Aa _) ?_; rintro _ J1 _ e1 ⟨cs1, y1, rfl, hr_1, hy1, hy1n, rfl⟩; obtain ⟨o1, k1, _, rfl, -⟩ := hr_1.open
 have hy1l : y1.ns.length = x.ns.length + ((a.mk tk n).pt tk).ns.length := by rw [hy1n]; simp
 have hlr := hlr.trans e1
 have hf := hf.mono e1
 have ht := ht.mono e1
 have hle := hle.trans e1
 have hk1 := hk1.mono e1
 unfold NZ.own
 refine Hx ?_; refine Bn (fun w h => Mem.vk4 h) ?_
 first | refine Da 11 rfl (Bc rfl rfl _ rfl) ?_ | refine Da 11 rfl (Bd rfl rfl _ rfl) ?_
 refine Dx 12 rfl rfl rfl rfl ?_; refine A5 Af ?_; refine Ap (Al rfl ?_); refine Or rfl rfl rfl ?_; refine Om rfl (Ab ?_); refine Bz ?_; refine Se rfl (Oc rfl rfl rfl (Ab (Ah ?_))); refine B6 rfl Ay ?_; refine Ak (Ah (Aq (Se rfl ?_)))
 first | refine Bs rfl rfl _ rfl .free rfl ?_ | refine Bt rfl rfl _ rfl .free rfl ?_
 refine Er rfl .free rfl ?_; refine Oa rfl (Ab (Se rfl ?_)); refine Az rfl .free rfl ?_; refine Ca rfl (Bl hf.rep _) ?_; rintro _ _ _ _ ⟨rfl, rfl, rfl⟩; refine Od rfl rfl rfl (Om rfl ?_)
 apply G4 59 67 rfl
 ·intro g11_4 hk
  try simp only [nb] at g11_4
  refine Az rfl (.met rfl rfl) rfl ?_; refine Cx rfl (.met rfl rfl) rfl (Bl hf.rep _) ?_; rintro _ _ _ _ ⟨rfl, rfl, rfl⟩; refine F9 rfl rfl rfl (.met rfl rfl) rfl ?_; refine Ow rfl ?_
  apply Fr 63 66 rfl
  ·intro g11_8 hk
   try simp only [nb] at g11_8
   refine Ow rfl ?_; refine D8 rfl rfl rfl (.met rfl rfl) rfl ?_; refine Em rfl rfl (.met rfl rfl) rfl ?_
   exact Bb 2 rfl rfl hk
  ·intro _ hk; refine Br 2 rfl ?_; refine D5 rfl rfl (.met rfl rfl) rfl ?_
   exact Bb 2 rfl rfl hk
  refine Of rfl rfl ?_
  exact Bb 5 rfl rfl hk
 ·intro _ hk; refine Br 7 rfl ?_; refine Ot rfl rfl ?_
  exact Bb 7 rfl rfl hk
 refine Ab ?_
 first | refine Ez rfl Im ?_ | refine Ey rfl Im ?_ | refine A0 Ar ?_
 refine C9 fun hlr => ?_
 have g2 := b.mk_g tk ((a.mk tk n).pt tk).n
 have mh2 := b.mk_hits tk ((a.mk tk n).pt tk).n
 have gp2 := MK.pt_g tk _ g2.1 g2.2
 have mp2 := MK.pt_hits tk _ mh2
 have lp2 := MK.pt_len tk _ (b.mk_len tk ((a.mk tk n).pt tk).n)
 have hz2 := Bp 121 tk ((a.mk tk n).pt tk).n
 refine Ae5 13 rfl rfl ?_; refine Da 0 rfl (Aj rfl) ?_; refine Dt 1 [12] rfl (Bo rfl) ?_; refine Da 2 rfl (Ai rfl) ?_; refine Da 3 rfl (Ai rfl) ?_; refine Da 4 rfl (Aj rfl) ?_; refine Dt 5 [12] rfl (Bo rfl) ?_; refine Da 6 rfl (Ai rfl) ?_
 first | refine Da 7 rfl (Bc rfl rfl _ rfl) ?_ | refine Da 7 rfl (Bd rfl rfl _ rfl) ?_
 refine Dt 8 [12] rfl (C5 rfl) ?_; refine Da 9 rfl (Ai rfl) ?_; refine Bn (fun w h => Mem.kv4 h) ?_; refine Dc 10 rfl rfl (Pt ihn ht Aa (hf.as 2 b.tree Aa rfl) hok.2 tk b0 bq bn (g + ((a.mk tk n).pt tk).g) ((a.mk tk n).pt tk).n Aa Aa y1 hy1 Aa _) ?_; rintro _ J2 _ e2 ⟨cs2, y2, rfl, hr_2, hy2, hy2n, rfl⟩; obtain ⟨o2, k2, _, rfl, -⟩ := hr_2.open
 have hy2l : y2.ns.length = y1.ns.length + ((b.mk tk ((a.mk tk n).pt tk).n).pt tk).ns.length := by rw [hy2n]; simp
 have hlr := hlr.trans e2
 have hf := hf.mono e2
 have ht := ht.mono e2
 have hle := hle.trans e2
 have hk1 := hk1.mono e2
 have hr_1 := hr_1.mono e2
 unfold NZ.own
 refine Hx ?_; refine Bn (fun w h => Mem.vk4 h) ?_
 first | refine Da 11 rfl (Bc rfl rfl _ rfl) ?_ | refine Da 11 rfl (Bd rfl rfl _ rfl) ?_
 refine Dx 12 rfl rfl rfl rfl ?_; refine A5 Af ?_; refine Ap (Al rfl ?_); refine Or rfl rfl rfl ?_; refine Om rfl (Ab ?_); refine Bz ?_; refine Se rfl (Oc rfl rfl rfl (Ab (Ah ?_))); refine De rfl Ay ?_; refine Cc rfl ?_; refine Se rfl ?_; refine Az rfl .free rfl ?_; refine By rfl rfl rfl rfl .free ?_; refine Ab ?_; refine Cu (fun w h => h.f1) (Bu ?_); intro hz
 have hf := hf.mono hz
 refine Am (.c rfl .nil) ?_; refine ⟨_, _, hle.trans hz, fun w h => h.drop.drop.drop, _, y2, rfl, .mk' rfl (.cons (hf.as 0 (.node o.txt []) Aa rfl) (.cons (hr_1.mono hz) (.cons (hr_2.mono hz) (.nil)))) (fun y hy => by cases hy; exact A9 (xs := [_, _, _, _, _, _])) Ae hcc Bf Bf, hy2.mono hz, by simp only [hy2n, hy1n, List.append_assoc], ?_⟩
 simp only [NZ.own, Nat.add_assoc]
set_option maxHeartbeats 1000000 in
theorem Abu {N : Nat} (ihn : M2 N) {a b d : Ex} {I : Heap} (ht : Tab I) {cs : List Value} (hlt : SizeOf.sizeOf (Ex.ite a b d) < N + 1) (h : Rep I (Ex.ite a b d).tree cs) (hok : (Ex.ite a b d).ok = true) (tk : List As) (b0 bq bn g n : Nat) (hn : n + (Ex.ite a b d).size + tk.length ≤ 900 + E3 121 tk n) (hg : g + (Ex.ite a b d).size ≤ 1000) (x : NZ) (hx : x.ok I) (hxl : x.ns.length + (Ex.ite a b d).size ≤ 100000) (L : Bj) :
  Fun Tryz.prog 167 [.pointer (some ⟨b0, 0, none⟩), .agg cs.toArray, .pointer (some ⟨bn, 0, none⟩)] I (x.own b0 bq tk g n bn L) (NP b0 bq tk g bn x ((Ex.ite a b d).mk tk n) L) := by
 obtain ⟨oa, c, oaf, cf1, rfl, hf, hcl, hcs⟩ := h.cells
 have hle : HLe I I := .refl _
 have hh0 := Bp 121 tk n
 have hpos : 0 < (Ex.ite a b d).tree.parts.length := by show 0 < 4; decide
 obtain ⟨xa, rfl⟩ : ∃ xa, oa = some xa := ⟨_, En hf.nil hpos⟩
 have hlen : (Ex.ite a b d).tree.parts.length = 4 := rfl
 have hp := hf.len
 have hpe : (Ex.ite a b d).tree.parts.isEmpty = false := rfl
 have hpe2 : ¬ (Ex.ite a b d).tree.parts = [] := fun e => by rw [e] at hlen; cases hlen
 have hki := L6 a b d
 have hhd : (Ex.ite a b d).tree.head = Gy := rfl
 have hxl2 : ¬ (Ex.ite a b d).tree.head = [108, 101, 116] := (by decide : ¬ Gy = Dz)
 have hxl2d : ¬ Gy = [108, 101, 116] := (by decide : ¬ Gy = Dz)
 have hxf : ¬ (Ex.ite a b d).tree.head = [102, 117, 110] := (by decide : ¬ Gy = Dk)
 have hxfd : ¬ Gy = [102, 117, 110] := (by decide : ¬ Gy = Dk)
 have hxi :  (Ex.ite a b d).tree.head = [105, 102] := rfl
 have hxid :  Gy = [105, 102] := rfl
 simp only [Ex.ite.sizeOf_spec] at hlt
 simp only [Ex.ok, Bool.and_eq_true, decide_eq_true_eq] at hok
 simp only [Ex.size] at hn hg hxl
 simp only [Ex.mk]
 unfold NZ.own
 refine Ao Ae ?_; refine Se rfl ?_; refine Cm rfl rfl .free rfl ?_; intro b4; refine A1 .free rfl ?_; intro b6; refine Ab (Ah (Se rfl ?_)); refine Az rfl .free rfl ?_; refine Ca rfl (B8 hf.rep _) ?_; rintro _ _ _ _ ⟨rfl, rfl, rfl⟩; refine Ab ?_
 first | refine Ez rfl (hpe) ?_ | refine Ey rfl (hpe) ?_ | refine A0 Ar ?_
 refine Ak (Ah (Se rfl ?_)); refine Az rfl .free rfl ?_; refine Ca rfl (Bl hf.rep _) ?_; rintro _ _ _ _ ⟨rfl, rfl, rfl⟩; refine Od rfl rfl rfl (Ab ?_)
 first | refine Ez rfl hxl2 ?_ | refine Ey rfl hxl2 ?_ | refine A0 Ar ?_
 refine Ak (Se rfl (Oh rfl ?_)); refine Bv rfl .free rfl ?_; refine Ca rfl (Hn (hcs _ rfl) Ff hcl.plain hpos hp _) ?_; rintro _ _ _ _ ⟨bc, sp, cc, rfl, hcc, rfl, rfl⟩
 simp only [show (Ex.ite a b d).tree.parts = [.node Gy [], a.tree, b.tree, d.tree] from rfl, D7, List.cons_append, List.nil_append]
 refine Cd rfl rfl rfl .free rfl ?_; refine A1 .free rfl ?_; intro b8; refine By rfl rfl rfl rfl .free ?_; refine Ab (Ah (Se rfl ?_)); refine Az rfl .free rfl ?_; refine Ca rfl (Du hf.rep _) ?_; rintro _ J _ e0 ⟨ok, ck, rfl, hk1, rfl⟩
 have hf := hf.mono e0
 have ht := ht.mono e0
 have hx := hx.mono e0
 have hle := hle.trans e0
 rw [hki] at hk1; rw [hki]; refine On rfl (Om rfl (Ab (Aq ?_))); refine Ee ?_; refine Se rfl (Oc rfl rfl rfl (Ab (Ah ?_))); refine B6 rfl Ay ?_; refine Ak (Ah (Aq (Se rfl ?_)))
 first | refine Bs rfl rfl _ rfl .free rfl ?_ | refine Bt rfl rfl _ rfl .free rfl ?_
 refine Er rfl .free rfl ?_; refine Oa rfl (Ab (Se rfl ?_)); refine Az rfl .free rfl ?_; refine Ca rfl (Bl hf.rep _) ?_; rintro _ _ _ _ ⟨rfl, rfl, rfl⟩; refine Od rfl rfl rfl (Om rfl ?_)
 apply G4 59 67 rfl
 ·intro g11_4 hk
  try simp only [nb] at g11_4
  refine Az rfl (.met rfl rfl) rfl ?_; refine Cx rfl (.met rfl rfl) rfl (Bl hf.rep _) ?_; rintro _ _ _ _ ⟨rfl, rfl, rfl⟩; refine F9 rfl rfl rfl (.met rfl rfl) rfl ?_; refine Ow rfl ?_
  apply Fr 63 66 rfl
  ·intro g11_8 hk
   try simp only [nb] at g11_8
   refine Ow rfl ?_; refine D8 rfl rfl rfl (.met rfl rfl) rfl ?_; refine Em rfl rfl (.met rfl rfl) rfl ?_
   exact Bb 2 rfl rfl hk
  ·intro _ hk; refine Br 2 rfl ?_; refine D5 rfl rfl (.met rfl rfl) rfl ?_
   exact Bb 2 rfl rfl hk
  refine Of rfl rfl ?_
  exact Bb 5 rfl rfl hk
 ·intro _ hk; refine Br 7 rfl ?_; refine Ot rfl rfl ?_
  exact Bb 7 rfl rfl hk
 refine Ab ?_
 first | refine Ez rfl Im ?_ | refine Ey rfl Im ?_ | refine A0 Ar ?_
 refine C9 fun hlr => ?_
 have g1 := a.mk_g tk n
 have mh1 := a.mk_hits tk n
 have gp1 := MK.pt_g tk _ g1.1 g1.2
 have mp1 := MK.pt_hits tk _ mh1
 have lp1 := MK.pt_len tk _ (a.mk_len tk n)
 have hz1 := Bp 121 tk n
 refine Ae5 13 rfl rfl ?_; refine Da 0 rfl (Aj rfl) ?_; refine Dt 1 [12] rfl (Bo rfl) ?_; refine Da 2 rfl (Ai rfl) ?_; refine Da 3 rfl (Ai rfl) ?_; refine Da 4 rfl (Aj rfl) ?_; refine Dt 5 [12] rfl (Bo rfl) ?_; refine Da 6 rfl (Ai rfl) ?_
 first | refine Da 7 rfl (Bc rfl rfl _ rfl) ?_ | refine Da 7 rfl (Bd rfl rfl _ rfl) ?_
 refine Dt 8 [12] rfl (C5 rfl) ?_; refine Da 9 rfl (Ai rfl) ?_; refine Bn (fun w h => Mem.kv4 h) ?_; refine Dc 10 rfl rfl (Pt ihn ht Aa (hf.as 1 a.tree Aa rfl) hok.1.1 tk b0 bq bn (g) n Aa Aa x hx Aa _) ?_; rintro _ J1 _ e1 ⟨cs1, y1, rfl, hr_1, hy1, hy1n, rfl⟩; obtain ⟨o1, k1, _, rfl, -⟩ := hr_1.open
 have hy1l : y1.ns.length = x.ns.length + ((a.mk tk n).pt tk).ns.length := by rw [hy1n]; simp
 have hlr := hlr.trans e1
 have hf := hf.mono e1
 have ht := ht.mono e1
 have hle := hle.trans e1
 have hk1 := hk1.mono e1
 unfold NZ.own
 refine Hx ?_; refine Bn (fun w h => Mem.vk4 h) ?_
 first | refine Da 11 rfl (Bc rfl rfl _ rfl) ?_ | refine Da 11 rfl (Bd rfl rfl _ rfl) ?_
 refine Dx 12 rfl rfl rfl rfl ?_; refine A5 Af ?_; refine Ap (Al rfl ?_); refine Or rfl rfl rfl ?_; refine Om rfl (Ab ?_); refine Bz ?_; refine Se rfl (Oc rfl rfl rfl (Ab (Ah ?_))); refine B6 rfl Ay ?_; refine Ak (Ah (Aq (Se rfl ?_)))
 first | refine Bs rfl rfl _ rfl .free rfl ?_ | refine Bt rfl rfl _ rfl .free rfl ?_
 refine Er rfl .free rfl ?_; refine Oa rfl (Ab (Se rfl ?_)); refine Az rfl .free rfl ?_; refine Ca rfl (Bl hf.rep _) ?_; rintro _ _ _ _ ⟨rfl, rfl, rfl⟩; refine Od rfl rfl rfl (Om rfl ?_)
 apply G4 59 67 rfl
 ·intro g11_4 hk
  try simp only [nb] at g11_4
  refine Az rfl (.met rfl rfl) rfl ?_; refine Cx rfl (.met rfl rfl) rfl (Bl hf.rep _) ?_; rintro _ _ _ _ ⟨rfl, rfl, rfl⟩; refine F9 rfl rfl rfl (.met rfl rfl) rfl ?_; refine Ow rfl ?_
  apply Fr 63 66 rfl
  ·intro g11_8 hk
   try simp only [nb] at g11_8
   refine Ow rfl ?_; refine D8 rfl rfl rfl (.met rfl rfl) rfl ?_; refine Em rfl rfl (.met rfl rfl) rfl ?_
   exact Bb 2 rfl rfl hk
  ·intro _ hk; refine Br 2 rfl ?_; refine D5 rfl rfl (.met rfl rfl) rfl ?_
   exact Bb 2 rfl rfl hk
  refine Of rfl rfl ?_
  exact Bb 5 rfl rfl hk
 ·intro _ hk; refine Br 7 rfl ?_; refine Ot rfl rfl ?_
  exact Bb 7 rfl rfl hk
 refine Ab ?_
 first | refine K3 rfl (by simp [hxi, hxid]) ?_ | refine K2 rfl (by simp [hxi, hxid]) ?_ | refine B9 Ar ?_
 refine C9 fun hlr => ?_
 have g2 := b.mk_g tk ((a.mk tk n).pt tk).n
 have mh2 := b.mk_hits tk ((a.mk tk n).pt tk).n
 have hz2 := Bp 121 tk ((a.mk tk n).pt tk).n
 refine Agf 12 rfl rfl ?_; refine Da 0 rfl (Aj rfl) ?_; refine Dt 1 [11] rfl (Bo rfl) ?_; refine Da 2 rfl (Ai rfl) ?_; refine Da 3 rfl (Ai rfl) ?_; refine Da 4 rfl (Aj rfl) ?_; refine Dt 5 [11] rfl (Bo rfl) ?_; refine Da 6 rfl (Ai rfl) ?_
 first | refine Da 7 rfl (Bc rfl rfl _ rfl) ?_ | refine Da 7 rfl (Bd rfl rfl _ rfl) ?_
 refine Dt 8 [11] rfl (C5 rfl) ?_; refine Bn (fun w h => Mem.nq4 h) ?_; refine Dc 9 rfl rfl (Mo ihn ht Aa (hf.as 2 b.tree Aa rfl) hok.1.2 tk b0 bq (g + ((a.mk tk n).pt tk).g) ((a.mk tk n).pt tk).n Aa Aa Aa _) ?_; rintro _ J2 _ e2 ⟨cs2, rfl, hr_2, rfl⟩; obtain ⟨o2, k2, _, rfl, -⟩ := hr_2.open
 have hlr := hlr.trans e2
 have hf := hf.mono e2
 have ht := ht.mono e2
 have hle := hle.trans e2
 have hk1 := hk1.mono e2
 have hy1 := hy1.mono e2
 have hr_1 := hr_1.mono e2
 refine Hx ?_; refine Bn (fun w h => Mem.qn4 h) ?_
 first | refine Da 10 rfl (Bc rfl rfl _ rfl) ?_ | refine Da 10 rfl (Bd rfl rfl _ rfl) ?_
 refine Dx 11 rfl rfl rfl rfl ?_; refine A5 Af ?_; refine Ap (Al rfl ?_); refine Or rfl rfl rfl ?_; refine Om rfl (Ab ?_); refine Bz ?_; refine Se rfl (Oc rfl rfl rfl (Ab (Ah ?_))); refine B6 rfl Ay ?_; refine Ak (Ah (Aq (Se rfl ?_)))
 first | refine Bs rfl rfl _ rfl .free rfl ?_ | refine Bt rfl rfl _ rfl .free rfl ?_
 refine Er rfl .free rfl ?_; refine Oa rfl (Ab (Se rfl ?_)); refine Az rfl .free rfl ?_; refine Ca rfl (Bl hf.rep _) ?_; rintro _ _ _ _ ⟨rfl, rfl, rfl⟩; refine Od rfl rfl rfl (Om rfl ?_)
 apply G4 59 67 rfl
 ·intro g11_4 hk
  try simp only [nb] at g11_4
  refine Az rfl (.met rfl rfl) rfl ?_; refine Cx rfl (.met rfl rfl) rfl (Bl hf.rep _) ?_; rintro _ _ _ _ ⟨rfl, rfl, rfl⟩; refine F9 rfl rfl rfl (.met rfl rfl) rfl ?_; refine Ow rfl ?_
  apply Fr 63 66 rfl
  ·intro g11_8 hk
   try simp only [nb] at g11_8
   refine Ow rfl ?_; refine D8 rfl rfl rfl (.met rfl rfl) rfl ?_; refine Em rfl rfl (.met rfl rfl) rfl ?_
   exact Bb 2 rfl rfl hk
  ·intro _ hk; refine Br 2 rfl ?_; refine D5 rfl rfl (.met rfl rfl) rfl ?_
   exact Bb 2 rfl rfl hk
  refine Of rfl rfl ?_
  exact Bb 5 rfl rfl hk
 ·intro _ hk; refine Br 7 rfl ?_; refine Ot rfl rfl ?_
  exact Bb 7 rfl rfl hk
 refine Ab ?_
 first | refine K3 rfl (by simp [hxi, hxid]) ?_ | refine K2 rfl (by simp [hxi, hxid]) ?_ | refine B9 Ar ?_
 refine C9 fun hlr => ?_
 have g3 := d.mk_g tk (b.mk tk ((a.mk tk n).pt tk).n).n
 have mh3 := d.mk_hits tk (b.mk tk ((a.mk tk n).pt tk).n).n
 have hz3 := Bp 121 tk (b.mk tk ((a.mk tk n).pt tk).n).n
 refine Agf 12 rfl rfl ?_; refine Da 0 rfl (Aj rfl) ?_; refine Dt 1 [11] rfl (Bo rfl) ?_; refine Da 2 rfl (Ai rfl) ?_; refine Da 3 rfl (Ai rfl) ?_; refine Da 4 rfl (Aj rfl) ?_; refine Dt 5 [11] rfl (Bo rfl) ?_; refine Da 6 rfl (Ai rfl) ?_
 first | refine Da 7 rfl (Bc rfl rfl _ rfl) ?_ | refine Da 7 rfl (Bd rfl rfl _ rfl) ?_
 refine Dt 8 [11] rfl (C5 rfl) ?_; refine Bn (fun w h => Mem.nq4 h) ?_; refine Dc 9 rfl rfl (Mo ihn ht Aa (hf.as 3 d.tree Aa rfl) hok.2 tk b0 bq (g + ((a.mk tk n).pt tk).g + (b.mk tk ((a.mk tk n).pt tk).n).g) (b.mk tk ((a.mk tk n).pt tk).n).n Aa Aa Aa _) ?_; rintro _ J3 _ e3 ⟨cs3, rfl, hr_3, rfl⟩; obtain ⟨o3, k3, _, rfl, -⟩ := hr_3.open
 have hlr := hlr.trans e3
 have hf := hf.mono e3
 have ht := ht.mono e3
 have hle := hle.trans e3
 have hk1 := hk1.mono e3
 have hy1 := hy1.mono e3
 have hr_1 := hr_1.mono e3
 have hr_2 := hr_2.mono e3
 refine Hx ?_; refine Bn (fun w h => Mem.qn4 h) ?_
 first | refine Da 10 rfl (Bc rfl rfl _ rfl) ?_ | refine Da 10 rfl (Bd rfl rfl _ rfl) ?_
 refine Dx 11 rfl rfl rfl rfl ?_; refine A5 Af ?_; refine Ap (Al rfl ?_); refine Or rfl rfl rfl ?_; refine Om rfl (Ab ?_); refine Bz ?_; refine Se rfl (Oc rfl rfl rfl (Ab (Ah ?_))); refine De rfl Ay ?_; refine Cc rfl ?_; refine Se rfl ?_; refine Az rfl .free rfl ?_; refine By rfl rfl rfl rfl .free ?_; refine Ab ?_; refine Cu (fun w h => h.f1) (Bu ?_); intro hz
 have hf := hf.mono hz
 refine Am (.c rfl .nil) ?_; refine ⟨_, _, hle.trans hz, fun w h => h.drop.drop.drop, _, y1, rfl, .mk' rfl (.cons (hf.as 0 (.node Gy []) Aa rfl) (.cons (hr_1.mono hz) (.cons (hr_2.mono hz) (.cons (hr_3.mono hz) (.nil))))) (fun y hy => by cases hy; exact A9 (xs := [_, _, _, _, _, _, _, _])) Ae hcc Bf Bf, hy1.mono hz, by simp only [hy1n], ?_⟩
 simp only [NZ.own, Nat.add_assoc]
set_option maxHeartbeats 1000000 in
theorem Adx {N : Nat} (ihn : M2 N) {z : As} {a b : Ex} {I : Heap} (ht : Tab I) {cs : List Value} (hlt : SizeOf.sizeOf (Ex.lt z a b) < N + 1) (h : Rep I (Ex.lt z a b).tree cs) (hok : (Ex.lt z a b).ok = true) (tk : List As) (b0 bq bn g n : Nat) (hn : n + (Ex.lt z a b).size + tk.length ≤ 900 + E3 121 tk n) (hg : g + (Ex.lt z a b).size ≤ 1000) (x : NZ) (hx : x.ok I) (hxl : x.ns.length + (Ex.lt z a b).size ≤ 100000) (L : Bj) :
  Fun Tryz.prog 167 [.pointer (some ⟨b0, 0, none⟩), .agg cs.toArray, .pointer (some ⟨bn, 0, none⟩)] I (x.own b0 bq tk g n bn L) (NP b0 bq tk g bn x ((Ex.lt z a b).mk tk n) L) := by
 obtain ⟨oa, c, oaf, cf1, rfl, hf, hcl, hcs⟩ := h.cells
 have hle : HLe I I := .refl _
 have hh0 := Bp 121 tk n
 have hpos : 0 < (Ex.lt z a b).tree.parts.length := by show 0 < 4; decide
 obtain ⟨xa, rfl⟩ : ∃ xa, oa = some xa := ⟨_, En hf.nil hpos⟩
 have hlen : (Ex.lt z a b).tree.parts.length = 4 := rfl
 have hp := hf.len
 have hpe : (Ex.lt z a b).tree.parts.isEmpty = false := rfl
 have hpe2 : ¬ (Ex.lt z a b).tree.parts = [] := fun e => by rw [e] at hlen; cases hlen
 have hki := L7 z a b
 have hhd : (Ex.lt z a b).tree.head = Dz := rfl
 have hxl2 :  (Ex.lt z a b).tree.head = [108, 101, 116] := rfl
 have hxl2d :  Dz = [108, 101, 116] := rfl
 have hxf : ¬ (Ex.lt z a b).tree.head = [102, 117, 110] := (by decide : ¬ Dz = Dk)
 have hxfd : ¬ Dz = [102, 117, 110] := (by decide : ¬ Dz = Dk)
 have hxi : ¬ (Ex.lt z a b).tree.head = [105, 102] := (by decide : ¬ Dz = Gy)
 have hxid : ¬ Dz = [105, 102] := (by decide : ¬ Dz = Gy)
 simp only [Ex.lt.sizeOf_spec] at hlt
 simp only [Ex.ok, Bool.and_eq_true, decide_eq_true_eq] at hok
 simp only [Ex.size] at hn hg hxl
 simp only [Ex.mk]
 unfold NZ.own
 refine Ao Ae ?_; refine Se rfl ?_; refine Cm rfl rfl .free rfl ?_; intro b4; refine A1 .free rfl ?_; intro b6; refine Ab (Ah (Se rfl ?_)); refine Az rfl .free rfl ?_; refine Ca rfl (B8 hf.rep _) ?_; rintro _ _ _ _ ⟨rfl, rfl, rfl⟩; refine Ab ?_
 first | refine Ez rfl (hpe) ?_ | refine Ey rfl (hpe) ?_ | refine A0 Ar ?_
 refine Ak (Ah (Se rfl ?_)); refine Az rfl .free rfl ?_; refine Ca rfl (Bl hf.rep _) ?_; rintro _ _ _ _ ⟨rfl, rfl, rfl⟩; refine Od rfl rfl rfl (Ab ?_)
 first | refine K3 rfl hxl2 ?_ | refine K2 rfl hxl2 ?_ | refine B9 Ar ?_
 refine Ah ?_; refine C9 fun hlr => ?_
 have g1 := a.mk_g tk n
 have mh1 := a.mk_hits tk n
 have lp1 := a.mk_len tk n
 have hzl : z.length ≤ Bg := Ex.name_len hok.1.1
 refine Al rfl (Om rfl (Oh rfl ?_)); refine Bv rfl .free rfl ?_
 first | refine Bs rfl rfl 2 rfl .free rfl ?_ | refine Bt rfl rfl 2 rfl .free rfl ?_
 refine Gv rfl .free rfl ?_; refine Om rfl ?_; refine C4 (fun w h => Mem.kv2 h) ?_; refine Ca rfl (ihn ht Aa (hf.as 2 a.tree Aa rfl) hok.1.2 tk b0 bq bn g n Aa Aa x hx Aa _) ?_; rintro _ J1 _ e1 ⟨cs1, y, rfl, hr, hy, hyn, rfl⟩; obtain ⟨o1, k1, _, rfl, -⟩ := hr.open
 have hyl : y.ns.length = x.ns.length + (a.mk tk n).ns.length := by rw [hyn]; simp
 obtain ⟨a1, k2, hu1⟩ := Af1 hy.buf
 have hz1 := Bp 121 tk (a.mk tk n).n
 have hf := hf.mono e1
 have ht := ht.mono e1
 unfold NZ.own
 refine C4 (fun w h => Mem.vk2 h) ?_; rw [hu1]; refine A1 .free rfl ?_; intro b7; refine By rfl rfl rfl rfl .free ?_; refine Ab (Ah ?_); refine Ag8 15 rfl rfl ?_; refine Da 0 rfl (Ai rfl) ?_; refine Da 1 rfl (Ai rfl) ?_; refine Da 2 rfl (Cb rfl) ?_; refine Dt 3 [14] rfl (P8 rfl) ?_; refine Da 4 rfl (Aj rfl) ?_; refine Dt 5 [14] rfl (Bo rfl) ?_
 first | refine Da 6 rfl (Bc rfl rfl 1 rfl) ?_ | refine Da 6 rfl (Bd rfl rfl 1 rfl) ?_
 refine Da 7 rfl (A4 rfl) ?_; refine Dt 8 [14] rfl (Kb rfl) ?_; refine Dt 9 [14] rfl (Ea rfl) ?_; refine Da 10 rfl (H9 rfl rfl rfl) ?_; refine Fg 11 rfl Af rfl rfl rfl Ac Ac Ac Ad Ad Ac .free rfl (.inr Au) ?_; intro b35; refine Cg 12 (B := y.B) (xs := y.xs) (ys := [.string (str z), .string (str (a.mk tk n).e.tree.atom), .slice o1 (a.mk tk n).e.tree.parts.length k1]) (m := y.ns.length) (c := y.c) rfl Af rfl Av Ac (by rw [hu1]; rfl) rfl hy.buf (fun _ h => h.uu7) Ac (fun a ha => by cases ha; exact Bw (.head _) Ac) Ae Ac Ad Aa Ad .free rfl (fun _ => .inr Au) ?_; intro B2 c3 hB2
 obtain ⟨bq2, sq, rfl⟩ : ∃ bq sq, B2 = some (bq, sq) := by
  cases B2 with
  | none => exact absurd hB2.1 Ae
  | some z => exact ⟨z.1, z.2, rfl⟩
 simp only [A2, List.cons_append, List.nil_append]
 refine Da 13 rfl (Cb rfl) ?_; refine Dx 14 rfl rfl rfl rfl ?_ (hu := Ahm); refine A5 Af ?_; refine Ah ?_
 have g2 := b.mk_g tk (a.mk tk n).n
 have mh2 := b.mk_hits tk (a.mk tk n).n
 have lp2 := b.mk_len tk (a.mk tk n).n
 have hln : y.ns.length + 1 = (y.ns ++ [(z, (a.mk tk n).e)]).length := by simp
 have hlx : (y.ns ++ [(z, (a.mk tk n).e)]).length + b.size ≤ 100000 := by rw [← hln]; omega
 have hBx : Dd 3 (y.ns ++ [(z, (a.mk tk n).e)]).length c3 _ (some (bq2, sq)) := hln ▸ hB2
 refine Al rfl (Om rfl (Oh rfl ?_)); refine Bv rfl .free rfl ?_
 first | refine Bs rfl rfl 3 rfl .free rfl ?_ | refine Bt rfl rfl 3 rfl .free rfl ?_
 refine Gv rfl .free rfl ?_; refine Om rfl ?_; rw [show y.ns.length + 1 = (y.ns ++ [(z, (a.mk tk n).e)]).length from hln]; refine C4 (L' := NZ.own b0 bq tk (g + (a.mk tk n).g) (a.mk tk n).n bn (NZ.mk (y.ns ++ [(z, (a.mk tk n).e)]) (some (bq2, sq)) c3 (y.xs ++ [Value.string (str z), Value.string (str (a.mk tk n).e.tree.atom), Value.slice o1 (a.mk tk n).e.tree.parts.length k1])) ((b35, _) :: (b7, _) :: (b6, _) :: (b4, _) :: L)) (fun w h => Mem.let5 h) ?_
 refine Ca rfl (ihn ht Aa (hf.as 3 b.tree Aa rfl) hok.2 tk b0 bq bn (g + (a.mk tk n).g) (a.mk tk n).n Aa Aa (NZ.mk (y.ns ++ [(z, (a.mk tk n).e)]) (some (bq2, sq)) c3 (y.xs ++ [Value.string (str z), Value.string (str (a.mk tk n).e.tree.atom), Value.slice o1 (a.mk tk n).e.tree.parts.length k1])) ⟨hBx, hy.rep.append (.cons hzl hr .nil)⟩ hlx _) ?_; rintro _ J2 _ e2 ⟨cs2, y2, rfl, hr2, hy2, hy2n, rfl⟩; obtain ⟨o2, k2', _, rfl, -⟩ := hr2.open
 unfold NZ.own
 refine C4 (fun w h => Mem.vk4 h) ?_; refine By rfl rfl rfl rfl .free ?_; refine Ab ?_; refine Am (.c rfl .nil) ?_; refine ⟨J2, _, e1.trans e2, fun w h => h.drop.drop.drop.drop, _, y2, rfl, hr2, hy2, by simp only [hy2n, hyn, List.append_assoc, List.cons_append, List.nil_append], ?_⟩
 simp only [NZ.own, Nat.add_assoc]
set_option maxHeartbeats 1000000 in
theorem Adw {N : Nat} (ihn : M2 N) {h1 z : As} {s u : Ty} {b : Ex} {I : Heap} (ht : Tab I) {cs : List Value} (hlt : SizeOf.sizeOf (Ex.fn h1 z s u b) < N + 1) (h : Rep I (Ex.fn h1 z s u b).tree cs) (hok : (Ex.fn h1 z s u b).ok = true) (tk : List As) (b0 bq bn g n : Nat) (hn : n + (Ex.fn h1 z s u b).size + tk.length ≤ 900 + E3 121 tk n) (hg : g + (Ex.fn h1 z s u b).size ≤ 1000) (x : NZ) (hx : x.ok I) (hxl : x.ns.length + (Ex.fn h1 z s u b).size ≤ 100000) (L : Bj) :
  Fun Tryz.prog 167 [.pointer (some ⟨b0, 0, none⟩), .agg cs.toArray, .pointer (some ⟨bn, 0, none⟩)] I (x.own b0 bq tk g n bn L) (NP b0 bq tk g bn x ((Ex.fn h1 z s u b).mk tk n) L) := by
 obtain ⟨oa, c, oaf, cf1, rfl, hf, hcl, hcs⟩ := h.cells
 have hle : HLe I I := .refl _
 have hh0 := Bp 121 tk n
 have hpos : 0 < (Ex.fn h1 z s u b).tree.parts.length := by show 0 < 6; decide
 obtain ⟨xa, rfl⟩ : ∃ xa, oa = some xa := ⟨_, En hf.nil hpos⟩
 have hlen : (Ex.fn h1 z s u b).tree.parts.length = 6 := rfl
 have hp := hf.len
 have hpe : (Ex.fn h1 z s u b).tree.parts.isEmpty = false := rfl
 have hpe2 : ¬ (Ex.fn h1 z s u b).tree.parts = [] := fun e => by rw [e] at hlen; cases hlen
 have hki := Mh h1 z s u b
 have hhd : (Ex.fn h1 z s u b).tree.head = Dk := rfl
 have hxl2 : ¬ (Ex.fn h1 z s u b).tree.head = [108, 101, 116] := (by decide : ¬ Dk = Dz)
 have hxl2d : ¬ Dk = [108, 101, 116] := (by decide : ¬ Dk = Dz)
 have hxf :  (Ex.fn h1 z s u b).tree.head = [102, 117, 110] := rfl
 have hxfd :  Dk = [102, 117, 110] := rfl
 have hxi : ¬ (Ex.fn h1 z s u b).tree.head = [105, 102] := (by decide : ¬ Dk = Gy)
 have hxid : ¬ Dk = [105, 102] := (by decide : ¬ Dk = Gy)
 simp only [Ex.fn.sizeOf_spec] at hlt
 simp only [Ex.ok, Bool.and_eq_true, decide_eq_true_eq] at hok
 simp only [Ex.size] at hn hg hxl
 simp only [Ex.mk]
 unfold NZ.own
 refine Ao Ae ?_; refine Se rfl ?_; refine Cm rfl rfl .free rfl ?_; intro b4; refine A1 .free rfl ?_; intro b6; refine Ab (Ah (Se rfl ?_)); refine Az rfl .free rfl ?_; refine Ca rfl (B8 hf.rep _) ?_; rintro _ _ _ _ ⟨rfl, rfl, rfl⟩; refine Ab ?_
 first | refine Ez rfl (hpe) ?_ | refine Ey rfl (hpe) ?_ | refine A0 Ar ?_
 refine Ak (Ah (Se rfl ?_)); refine Az rfl .free rfl ?_; refine Ca rfl (Bl hf.rep _) ?_; rintro _ _ _ _ ⟨rfl, rfl, rfl⟩; refine Od rfl rfl rfl (Ab ?_)
 first | refine Ez rfl hxl2 ?_ | refine Ey rfl hxl2 ?_ | refine A0 Ar ?_
 refine Ak (Se rfl (Oh rfl ?_)); refine Bv rfl .free rfl ?_; refine Ca rfl (Hn (hcs _ rfl) Ff hcl.plain hpos hp _) ?_; rintro _ _ _ _ ⟨bc, sp, cc, rfl, hcc, rfl, rfl⟩
 simp only [show (Ex.fn h1 z s u b).tree.parts = [.node Dk [], .node h1 [], .node z [], s.tree, u.tree, b.tree] from rfl, D7, List.cons_append, List.nil_append]
 refine Cd rfl rfl rfl .free rfl ?_; refine A1 .free rfl ?_; intro b8; refine By rfl rfl rfl rfl .free ?_; refine Ab (Ah (Se rfl ?_)); refine Az rfl .free rfl ?_; refine Ca rfl (Du hf.rep _) ?_; rintro _ J _ e0 ⟨ok, ck, rfl, hk1, rfl⟩
 have hf := hf.mono e0
 have ht := ht.mono e0
 have hx := hx.mono e0
 have hle := hle.trans e0
 rw [hki] at hk1; rw [hki]; refine On rfl (Om rfl (Ab (Aq ?_))); refine Ee ?_; refine Se rfl (Oc rfl rfl rfl (Ab (Ah ?_))); refine B6 rfl Ay ?_; refine Ak (Ah (Aq (Se rfl ?_)))
 first | refine Bs rfl rfl _ rfl .free rfl ?_ | refine Bt rfl rfl _ rfl .free rfl ?_
 refine Er rfl .free rfl ?_; refine Oa rfl (Ab (Se rfl ?_)); refine Az rfl .free rfl ?_; refine Ca rfl (Bl hf.rep _) ?_; rintro _ _ _ _ ⟨rfl, rfl, rfl⟩; refine Od rfl rfl rfl (Om rfl ?_)
 apply G4 59 67 rfl
 ·intro g11_4 hk
  try simp only [nb] at g11_4
  refine Az rfl (.met rfl rfl) rfl ?_; refine Cx rfl (.met rfl rfl) rfl (Bl hf.rep _) ?_; rintro _ _ _ _ ⟨rfl, rfl, rfl⟩; refine F9 rfl rfl rfl (.met rfl rfl) rfl ?_; refine Ow rfl ?_
  apply Fr 63 66 rfl
  ·intro g11_8 hk
   try simp only [nb] at g11_8
   refine Ow rfl ?_; refine D8 rfl rfl rfl (.met rfl rfl) rfl ?_; refine Em rfl rfl (.met rfl rfl) rfl ?_
   exact Bb 2 rfl rfl hk
  ·intro _ hk; refine Br 2 rfl ?_; refine D5 rfl rfl (.met rfl rfl) rfl ?_
   exact Bb 2 rfl rfl hk
  refine Of rfl rfl ?_
  exact Bb 5 rfl rfl hk
 ·intro _ hk; refine Br 7 rfl ?_; refine Ot rfl rfl ?_
  exact Bb 7 rfl rfl hk
 refine Ab ?_
 first | refine K3 rfl (by simp [hxf, hxfd]) ?_ | refine K2 rfl (by simp [hxf, hxfd]) ?_ | refine B9 Ar ?_
 refine C9 fun hlr => ?_
 have g1 := b.mk_g tk n
 have mh1 := b.mk_hits tk n
 have hz1 := Bp 121 tk n
 refine Agf 12 rfl rfl ?_; refine Da 0 rfl (Aj rfl) ?_; refine Dt 1 [11] rfl (Bo rfl) ?_; refine Da 2 rfl (Ai rfl) ?_; refine Da 3 rfl (Ai rfl) ?_; refine Da 4 rfl (Aj rfl) ?_; refine Dt 5 [11] rfl (Bo rfl) ?_; refine Da 6 rfl (Ai rfl) ?_
 first | refine Da 7 rfl (Bc rfl rfl _ rfl) ?_ | refine Da 7 rfl (Bd rfl rfl _ rfl) ?_
 refine Dt 8 [11] rfl (C5 rfl) ?_; refine Bn (fun w h => Mem.nq4 h) ?_; refine Dc 9 rfl rfl (Mo ihn ht Aa (hf.as 5 b.tree Aa rfl) hok.2 tk b0 bq (g) n Aa Aa Aa _) ?_; rintro _ J1 _ e1 ⟨cs1, rfl, hr_1, rfl⟩; obtain ⟨o1, k1, _, rfl, -⟩ := hr_1.open
 have hlr := hlr.trans e1
 have hf := hf.mono e1
 have ht := ht.mono e1
 have hle := hle.trans e1
 have hk1 := hk1.mono e1
 have hx := hx.mono e1
 refine Hx ?_; refine Bn (fun w h => Mem.qn4 h) ?_
 first | refine Da 10 rfl (Bc rfl rfl _ rfl) ?_ | refine Da 10 rfl (Bd rfl rfl _ rfl) ?_
 refine Dx 11 rfl rfl rfl rfl ?_; refine A5 Af ?_; refine Ap (Al rfl ?_); refine Or rfl rfl rfl ?_; refine Om rfl (Ab ?_); refine Bz ?_; refine Se rfl (Oc rfl rfl rfl (Ab (Ah ?_))); refine De rfl Ay ?_; refine Cc rfl ?_; refine Se rfl ?_; refine Az rfl .free rfl ?_; refine By rfl rfl rfl rfl .free ?_; refine Ab ?_; refine Cu (fun w h => h.f1) (Bu ?_); intro hz
 have hf := hf.mono hz
 refine Am (.c rfl .nil) ?_; refine ⟨_, _, hle.trans hz, fun w h => h.drop.drop.drop, _, x, rfl, .mk' rfl (.cons (hf.as 0 (.node Dk []) Aa rfl) (.cons (hf.as 1 (.node h1 []) Aa rfl) (.cons (hf.as 2 (.node z []) Aa rfl) (.cons (hf.as 3 s.tree Aa rfl) (.cons (hf.as 4 u.tree Aa rfl) (.cons (hr_1.mono hz) (.nil))))))) (fun y hy => by cases hy; exact A9 (xs := [_, _, _, _, _, _, _, _, _, _, _, _])) Ae hcc Bf Bf, hx.mono hz, by simp, ?_⟩
 simp only [NZ.own, Nat.add_assoc]
set_option maxHeartbeats 1000000 in
theorem Ady {N : Nat} (ihn : M2 N) {o : U2} {a : Ex} {I : Heap} (ht : Tab I) {cs : List Value} (hlt : SizeOf.sizeOf (Ex.un o a) < N + 1) (h : Rep I (Ex.un o a).tree cs) (hok : (Ex.un o a).ok = true) (tk : List As) (b0 bq bn g n : Nat) (hn : n + (Ex.un o a).size + tk.length ≤ 900 + E3 121 tk n) (hg : g + (Ex.un o a).size ≤ 1000) (x : NZ) (hx : x.ok I) (hxl : x.ns.length + (Ex.un o a).size ≤ 100000) (L : Bj) :
  Fun Tryz.prog 167 [.pointer (some ⟨b0, 0, none⟩), .agg cs.toArray, .pointer (some ⟨bn, 0, none⟩)] I (x.own b0 bq tk g n bn L) (NP b0 bq tk g bn x ((Ex.un o a).mk tk n) L) := by
 obtain ⟨oa, c, oaf, cf1, rfl, hf, hcl, hcs⟩ := h.cells
 have hle : HLe I I := .refl _
 have hh0 := Bp 121 tk n
 have hpos : 0 < (Ex.un o a).tree.parts.length := by show 0 < 2; decide
 obtain ⟨xa, rfl⟩ : ∃ xa, oa = some xa := ⟨_, En hf.nil hpos⟩
 have hlen : (Ex.un o a).tree.parts.length = 2 := rfl
 have hp := hf.len
 have hpe : (Ex.un o a).tree.parts.isEmpty = false := rfl
 have hpe2 : ¬ (Ex.un o a).tree.parts = [] := fun e => by rw [e] at hlen; cases hlen
 have hki := Nz o a
 have hhd : (Ex.un o a).tree.head = o.txt := rfl
 have hxl2 : ¬ (Ex.un o a).tree.head = [108, 101, 116] := o.txt_ne.2.1
 have hxl2d : ¬ o.txt = [108, 101, 116] := o.txt_ne.2.1
 have hxf : ¬ (Ex.un o a).tree.head = [102, 117, 110] := o.txt_ne.2.2.1
 have hxfd : ¬ o.txt = [102, 117, 110] := o.txt_ne.2.2.1
 have hxi : ¬ (Ex.un o a).tree.head = [105, 102] := o.txt_ne.1
 have hxid : ¬ o.txt = [105, 102] := o.txt_ne.1
 simp only [Ex.un.sizeOf_spec] at hlt
 simp only [Ex.ok, Bool.and_eq_true, decide_eq_true_eq] at hok
 simp only [Ex.size] at hn hg hxl
 simp only [Ex.mk]
 unfold NZ.own
 refine Ao Ae ?_; refine Se rfl ?_; refine Cm rfl rfl .free rfl ?_; intro b4; refine A1 .free rfl ?_; intro b6; refine Ab (Ah (Se rfl ?_)); refine Az rfl .free rfl ?_; refine Ca rfl (B8 hf.rep _) ?_; rintro _ _ _ _ ⟨rfl, rfl, rfl⟩; refine Ab ?_
 first | refine Ez rfl (hpe) ?_ | refine Ey rfl (hpe) ?_ | refine A0 Ar ?_
 refine Ak (Ah (Se rfl ?_)); refine Az rfl .free rfl ?_; refine Ca rfl (Bl hf.rep _) ?_; rintro _ _ _ _ ⟨rfl, rfl, rfl⟩; refine Od rfl rfl rfl (Ab ?_)
 first | refine Ez rfl hxl2 ?_ | refine Ey rfl hxl2 ?_ | refine A0 Ar ?_
 refine Ak (Se rfl (Oh rfl ?_)); refine Bv rfl .free rfl ?_; refine Ca rfl (Hn (hcs _ rfl) Ff hcl.plain hpos hp _) ?_; rintro _ _ _ _ ⟨bc, sp, cc, rfl, hcc, rfl, rfl⟩
 simp only [show (Ex.un o a).tree.parts = [.node o.txt [], a.tree] from rfl, D7, List.cons_append, List.nil_append]
 refine Cd rfl rfl rfl .free rfl ?_; refine A1 .free rfl ?_; intro b8; refine By rfl rfl rfl rfl .free ?_; refine Ab (Ah (Se rfl ?_)); refine Az rfl .free rfl ?_; refine Ca rfl (Du hf.rep _) ?_; rintro _ J _ e0 ⟨ok, ck, rfl, hk1, rfl⟩
 have hf := hf.mono e0
 have ht := ht.mono e0
 have hx := hx.mono e0
 have hle := hle.trans e0
 rw [hki] at hk1; rw [hki]; refine On rfl (Om rfl (Ab (Aq ?_))); refine Ee ?_; refine Se rfl (Oc rfl rfl rfl (Ab (Ah ?_))); refine B6 rfl Ay ?_; refine Ak (Ah (Aq (Se rfl ?_)))
 first | refine Bs rfl rfl _ rfl .free rfl ?_ | refine Bt rfl rfl _ rfl .free rfl ?_
 refine Er rfl .free rfl ?_; refine Oa rfl (Ab (Se rfl ?_)); refine Az rfl .free rfl ?_; refine Ca rfl (Bl hf.rep _) ?_; rintro _ _ _ _ ⟨rfl, rfl, rfl⟩; refine Od rfl rfl rfl (Om rfl ?_)
 apply G4 59 67 rfl
 ·intro g11_4 hk
  try simp only [nb] at g11_4
  refine Az rfl (.met rfl rfl) rfl ?_; refine Cx rfl (.met rfl rfl) rfl (Bl hf.rep _) ?_; rintro _ _ _ _ ⟨rfl, rfl, rfl⟩; refine F9 rfl rfl rfl (.met rfl rfl) rfl ?_; refine Ow rfl ?_
  apply Fr 63 66 rfl
  ·intro g11_8 hk
   try simp only [nb] at g11_8
   refine Ow rfl ?_; refine D8 rfl rfl rfl (.met rfl rfl) rfl ?_; refine Em rfl rfl (.met rfl rfl) rfl ?_
   exact Bb 2 rfl rfl hk
  ·intro _ hk; refine Br 2 rfl ?_; refine D5 rfl rfl (.met rfl rfl) rfl ?_
   exact Bb 2 rfl rfl hk
  refine Of rfl rfl ?_
  exact Bb 5 rfl rfl hk
 ·intro _ hk; refine Br 7 rfl ?_; refine Ot rfl rfl ?_
  exact Bb 7 rfl rfl hk
 refine Ab ?_
 first | refine Ez rfl Im ?_ | refine Ey rfl Im ?_ | refine A0 Ar ?_
 refine C9 fun hlr => ?_
 have g1 := a.mk_g tk n
 have mh1 := a.mk_hits tk n
 have gp1 := MK.pt_g tk _ g1.1 g1.2
 have mp1 := MK.pt_hits tk _ mh1
 have lp1 := MK.pt_len tk _ (a.mk_len tk n)
 have hz1 := Bp 121 tk n
 refine Ae5 13 rfl rfl ?_; refine Da 0 rfl (Aj rfl) ?_; refine Dt 1 [12] rfl (Bo rfl) ?_; refine Da 2 rfl (Ai rfl) ?_; refine Da 3 rfl (Ai rfl) ?_; refine Da 4 rfl (Aj rfl) ?_; refine Dt 5 [12] rfl (Bo rfl) ?_; refine Da 6 rfl (Ai rfl) ?_
 first | refine Da 7 rfl (Bc rfl rfl _ rfl) ?_ | refine Da 7 rfl (Bd rfl rfl _ rfl) ?_
 refine Dt 8 [12] rfl (C5 rfl) ?_; refine Da 9 rfl (Ai rfl) ?_; refine Bn (fun w h => Mem.kv4 h) ?_; refine Dc 10 rfl rfl (Pt ihn ht Aa (hf.as 1 a.tree Aa rfl) hok tk b0 bq bn (g) n Aa Aa x hx Aa _) ?_; rintro _ J1 _ e1 ⟨cs1, y1, rfl, hr_1, hy1, hy1n, rfl⟩; obtain ⟨o1, k1, _, rfl, -⟩ := hr_1.open
 have hy1l : y1.ns.length = x.ns.length + ((a.mk tk n).pt tk).ns.length := by rw [hy1n]; simp
 have hlr := hlr.trans e1
 have hf := hf.mono e1
 have ht := ht.mono e1
 have hle := hle.trans e1
 have hk1 := hk1.mono e1
 unfold NZ.own
 refine Hx ?_; refine Bn (fun w h => Mem.vk4 h) ?_
 first | refine Da 11 rfl (Bc rfl rfl _ rfl) ?_ | refine Da 11 rfl (Bd rfl rfl _ rfl) ?_
 refine Dx 12 rfl rfl rfl rfl ?_; refine A5 Af ?_; refine Ap (Al rfl ?_); refine Or rfl rfl rfl ?_; refine Om rfl (Ab ?_); refine Bz ?_; refine Se rfl (Oc rfl rfl rfl (Ab (Ah ?_))); refine De rfl Ay ?_; refine Cc rfl ?_; refine Se rfl ?_; refine Az rfl .free rfl ?_; refine By rfl rfl rfl rfl .free ?_; refine Ab ?_; refine Cu (fun w h => h.f1) (Bu ?_); intro hz
 have hf := hf.mono hz
 refine Am (.c rfl .nil) ?_; refine ⟨_, _, hle.trans hz, fun w h => h.drop.drop.drop, _, y1, rfl, .mk' rfl (.cons (hf.as 0 (.node o.txt []) Aa rfl) (.cons (hr_1.mono hz) (.nil))) (fun y hy => by cases hy; exact A9 (xs := [_, _, _, _])) Ae hcc Bf Bf, hy1.mono hz, by simp only [hy1n], ?_⟩
 simp only [NZ.own, Nat.add_assoc]
theorem Zp {e : Ex} {I : Heap} {cs : List Value} (hb : e.bare = true) (h : Rep I e.tree cs) (hok : e.ok = true) (tk : List As) (b0 bq bn g n : Nat) (x : NZ) (hx : x.ok I) (L : Bj) :
  Fun Tryz.prog 167 [.pointer (some ⟨b0, 0, none⟩), .agg cs.toArray, .pointer (some ⟨bn, 0, none⟩)] I (x.own b0 bq tk g n bn L) (NP b0 bq tk g bn x (e.mk tk n) L) := by
 obtain ⟨oa, c, oaf, cf1, rfl, hf⟩ := h.at'
 have hm : e.mk tk n = ⟨e, [], n, 0⟩ := by cases e <;> first | rfl | cases hb
 rw [hm]
 have hpe : e.tree.parts.isEmpty = true := by rw [← Ex.bare_parts]; exact hb
 have hpe2 : e.tree.parts = [] := List.isEmpty_iff.1 hpe
 unfold NZ.own
 refine Ao Ae ?_; refine Se rfl ?_; refine Cm rfl rfl .free rfl ?_; intro b4; refine A1 .free rfl ?_; intro b6; refine Ab (Ah (Se rfl ?_)); refine Az rfl .free rfl ?_; refine Ca rfl (B8 hf.rep _) ?_; rintro _ _ _ _ ⟨rfl, rfl, rfl⟩; refine Ab ?_
 first | refine K3 rfl (hpe) ?_ | refine K2 rfl (hpe) ?_ | refine B9 Ar ?_
 refine Se rfl ?_; refine Az rfl .free rfl ?_; refine By rfl rfl rfl rfl .free ?_; refine Ab ?_; refine Am (.c rfl .nil) ?_
 exact ⟨I, _, .refl _, fun w h => h.drop.drop, _, x, rfl, hf.rep, hx, by simp, rfl⟩
theorem Abs : ∀ N : Nat, M2 N := by
 intro N
 induction N with
 | zero => intro I ht e cs h; omega
 | succ N ihn =>
  intro I ht e cs hlt h hok tk b bq bn g n hn hg x hx hxl L
  cases hb : e.bare with
  | true => exact Zp hb h hok tk b bq bn g n x hx L
  | false =>
   cases e with
   | num s => cases hb
   | name s => cases hb
   | bin o p q => exact Abt ihn ht hlt h hok tk b bq bn g n hn hg x hx hxl L
   | ite p q r => exact Abu ihn ht hlt h hok tk b bq bn g n hn hg x hx hxl L
   | lt z p q => exact Adx ihn ht hlt h hok tk b bq bn g n hn hg x hx hxl L
   | fn h1 z s u q => exact Adw ihn ht hlt h hok tk b bq bn g n hn hg x hx hxl L
   | un o p => exact Ady ihn ht hlt h hok tk b bq bn g n hn hg x hx hxl L
def pn (b : Nat) (oa : Option Addr) (av : List As) (c g n : Nat) : Nat × Obj := (b, .cells [.slice oa av.length c, .int .i64 (g : Nat), .int .i64 (n : Nat)].toArray 118 (0, 0))
theorem Kp {I : Heap} {oa : Option Addr} {av : List As} {c : Nat} (hav : Strs I oa av c) (b g n : Nat) (hn : fr 120 av n < 100) (hg : g ≤ 1000000) (L : Bj) :
  Fun Tryz.prog 142 [.pointer (some ⟨b, 0, none⟩)] I (pn b oa av c g n :: L) (fun v I' L' => v = .string (str (nm 120 (fr 120 av n))) ∧ I = I' ∧ L' = pn b oa av c (g + 1) (fr 120 av n + 1) :: L) := by
 obtain ⟨f1, f2, f3⟩ := Dv 120 av n; refine Ao Ae ?_; refine Se rfl (Oa rfl (Ab (Aq ?_))); refine Dn (X := Nat) (fun m => fr 120 av n + 1 - m) (fun m => [(0, .pointer (some ⟨b, 0, none⟩))]) (fun _ => I) (fun m => pn b oa av c g m :: L) (fun m => n ≤ m ∧ m ≤ fr 120 av n ∧ ∀ j, n ≤ j → j < m → nm 120 j ∈ av) n ⟨Nat.le_refl _, f2, fun j h1 h2 => absurd h2 Aa⟩ ⟨rfl, trivial⟩ (fun _ h => h) ?_; rintro m ⟨hm1, hm2, hm3⟩ ih
 unfold pn
 have hdl := Sn (n := m) Aa
 refine Aq (Se rfl (Om rfl ?_)); refine Aw rfl .free rfl ?_
 first | refine Oh rfl ?_ | refine Oj rfl ?_
 refine L8 rfl .free rfl ?_; refine Ca rfl (Sv m Aa _ _) ?_; rintro _ _ _ _ ⟨rfl, rfl, rfl⟩; refine Ok rfl rfl ?_; refine Oa rfl (Ab (Se rfl (Om rfl ?_))); refine Aw rfl .free rfl ?_
 first | refine Oh rfl ?_ | refine Oj rfl ?_
 refine L8 rfl .free rfl ?_; refine Or rfl rfl rfl ?_; refine Aw rfl .free rfl ?_
 first | refine Oh rfl ?_ | refine Oj rfl ?_
 refine By rfl rfl rfl rfl .free ?_; refine Ab (Se rfl (Om rfl ?_)); refine Aw rfl .free rfl ?_
 first | refine Oh rfl ?_ | refine Oj rfl ?_
 refine L8 rfl .free rfl ?_; refine Om rfl ?_; refine Ca rfl (I6 (hav.rd _) c (nm 120 m)) ?_; rintro _ _ _ _ ⟨rfl, rfl, rfl⟩; refine Ei rfl .free rfl ?_; refine Ab ?_; refine A6 rfl ?_ ?_
 ·intro c0
  try simp only [nb] at c0
  refine Se rfl (Om rfl ?_); refine Aw rfl .free rfl ?_
  first | refine Oh rfl ?_ | refine Oj rfl ?_
  refine L8 rfl .free rfl ?_; refine Or rfl rfl rfl ?_; refine Aw rfl .free rfl ?_
  first | refine Oh rfl ?_ | refine Oj rfl ?_
  refine By rfl rfl rfl rfl .free ?_; refine Ab (Se rfl (Om rfl (Oa rfl (Ab (Am (.tmp rfl .nil) ?_)))))
  have hfm : fr 120 av n = m := R3 hm3 hm1 c0
  exact ⟨I, _, .refl _, fun _ h => h, by rw [hfm]; rfl, rfl, by rw [hfm]; rfl⟩
 intro c0
 try simp only [nb] at c0
 refine Ak (Ap ?_)
 have hne : m ≠ fr 120 av n := fun e => f1 (e ▸ c0)
 refine Ed (E' := [(0, .pointer (some ⟨b, 0, none⟩))]) ⟨rfl, trivial⟩ (ih (m + 1) ⟨by omega, by omega, fun j h1 h2 => ?_⟩ Aa)
 by_cases hj : j = m
 ·subst hj; exact c0
 ·exact hm3 j h1 Aa
def PE (b : Nat) (oa : Option Addr) (av : List As) (c g : Nat) (p : Ex × Nat) (L : Bj) : Cv := fun v I' L' => ∃ cs, v = .agg (List.toArray cs) ∧ Rep I' p.1.tree cs ∧ L' = pn b oa av c g p.2 :: L
set_option maxHeartbeats 2000000 in
theorem Sq : ∀ (n : Nat) {I : Heap} {e : Ex} {cs : List Value} (_ : SizeOf.sizeOf e < n) (_ : Rep I e.tree cs) (_ : e.ok = true) {f t : List As} {of ot : Option Addr} {cf ct : Nat} (_ : Strs I of f cf) (_ : Strs I ot t ct) (_ : f.length = t.length) (_ : namesL f) (_ : f.length + 2 * e.size ≤ 100000)
  {oa : Option Addr} {av : List As} {c : Nat} (_ : Strs I oa av c) (b g k : Nat) (_ : k + e.nb + av.length ≤ 90 + E3 120 av k) (_ : g + e.nb ≤ 100000) (L : Bj),
  Fun Tryz.prog 92 [.pointer (some ⟨b, 0, none⟩), .agg cs.toArray, .slice of f.length cf, .slice ot t.length ct] I (pn b oa av c g k :: L) (PE b oa av c (g + e.nb) (e.pl av f t k) L) := by
 intro n
 induction n with
 | zero => intro I e cs h; omega
 | succ n ihn =>
  intro I e cs hlt h hok f t of ot cf ct hfr hto hft hnf hfl ov av cv hav bp g k hk hg L; obtain ⟨oa, c, oaf, cf1, rfl, hf, hcl, hcs⟩ := h.cells
  have hle : HLe I I := .refl _
  have ha := hf.alen
  have hh0 := Bp 120 av k
  refine Ao Ae ?_; refine Se rfl ?_; refine Cm rfl rfl .free rfl ?_; intro b5; refine A1 .free rfl ?_; intro b8; refine Ab (Ah (Se rfl ?_)); refine Az rfl .free rfl ?_; refine Ca rfl (B8 hf.rep _) ?_; rintro _ _ _ _ ⟨rfl, rfl, rfl⟩; refine Ab ?_; refine A6 rfl ?_ ?_
  ·intro c0
   try simp only [nb] at c0
   have hb : e.bare = true := by rw [Ex.bare_parts]; exact c0
   refine Ah (Se rfl (Om rfl (Oh rfl ?_))); refine Bv rfl .free rfl ?_; refine Ca rfl (Xu hfr e.tree.atom _) ?_; rintro _ _ _ _ ⟨rfl, rfl, rfl⟩; refine Oa rfl (Ab (Se rfl (Om rfl (Oc rfl rfl rfl (Ab ?_))))); refine A6 rfl ?_ ?_
   ·intro c1
    try simp only [nb] at c1
    obtain ⟨i, hi⟩ : ∃ i, B7 f e.tree.atom = some i := by
     cases hi : B7 f e.tree.atom with
     | none => rw [hi] at c1; simp [Zn] at c1
     | some i => exact ⟨i, rfl⟩
    have hil := (Ki (show Fz f e.tree.atom f.length = some i from hi)).1
    have hit : i < t.length := by omega
    have hst := hto.st i hit
    rw [hi]; refine Se rfl (Om rfl (Om rfl ?_))
    first | refine Bs rfl rfl _ rfl .free rfl ?_ | refine Bt rfl rfl _ rfl .free rfl ?_
    refine Er rfl .free rfl ?_; refine Ca rfl (Li (t.getD i []) (by rw [show t.getD i [] = t[i] by simp [hit]]; exact hto.each _ (List.getElem_mem _)) _ _) ?_; rintro _ _ _ _ ⟨rfl, rfl, rfl⟩; refine By rfl rfl rfl rfl .free ?_; refine Ab ?_; refine Am (.c rfl .nil) ?_
    cases e with
    | name s =>
     have hi : B7 f s = some i := hi
     refine ⟨I, _, .refl _, fun w h => Mem.sub (L' := pn bp ov av cv g k :: L) A7 h, _, rfl, ?_, rfl⟩
     show Rep I (.node (match B7 f s with | some i => t.getD i [] | none => s) []) _
     rw [hi]
     exact .ofAtom (show (t.getD i []).length ≤ Bg by rw [show t.getD i [] = t[i] by simp [hit]]; exact hto.each _ (List.getElem_mem _))
    | num s =>
     have h1 := Hy (hnf s (Jg hi))
     rw [show Ci s = true from hok] at h1; cases h1
    | _ => cases hb
   intro c1
   try simp only [nb] at c1
   refine Ak (Se rfl ?_); refine Az rfl .free rfl ?_; refine By rfl rfl rfl rfl .free ?_; refine Ab ?_; refine Am (.c rfl .nil) ?_
   cases e with
   | name s =>
    have hi : B7 f s = none := by
     cases hi : B7 f s with
     | none => rfl
     | some i => rw [show B7 f (Ex.name s).tree.atom = some i from hi] at c1; simp [Zn] at c1
    refine ⟨I, _, .refl _, fun w h => Mem.sub (L' := pn bp ov av cv g k :: L) A7 h, _, rfl, ?_, rfl⟩
    show Rep I (.node (match B7 f s with | some i => t.getD i [] | none => s) []) _
    rw [hi]; exact hf.rep
   | num s => exact ⟨I, _, .refl _, fun w h => Mem.sub (L' := pn bp ov av cv g k :: L) A7 h, _, rfl, hf.rep, rfl⟩
   | _ => cases hb
  intro c0
  try simp only [nb] at c0
  have hb : e.bare = false := by rw [Ex.bare_parts]; exact c0
  have hsh := e.shapes hb
  have hok0 := hok
  have hpos : 0 < e.tree.parts.length := by
   rw [Ex.bare_parts] at hb
   have : e.tree.parts ≠ [] := by intro hh; rw [hh] at hb; cases hb
   exact List.length_pos_iff.2 this
  obtain ⟨xa, rfl⟩ : ∃ xa, oa = some xa := ⟨_, En hf.nil hpos⟩
  have hp := hf.len
  refine Ak (Se rfl (Oh rfl ?_)); refine Bv rfl .free rfl ?_; refine Ca rfl (Hn (hcs _ rfl) Ff hcl.plain hpos hp _) ?_; rintro _ _ _ _ ⟨bc, sp, cc, rfl, hcc, rfl, rfl⟩; refine Cd rfl rfl rfl .free rfl ?_; refine A1 .free rfl ?_; intro b10; refine By rfl rfl rfl rfl .free ?_; refine Ab (Ah ?_)
  rcases hsh with ⟨o, a, b, rfl⟩ | ⟨a, b, d, rfl⟩ | ⟨z, a, b, rfl⟩ | ⟨h1, z, s, u, b, rfl⟩ | ⟨o, a, rfl⟩
  ·skip
   have hlen : (Ex.bin o a b).tree.parts.length = 3 := rfl
   have hki := L5 o a b
   have hhd : (Ex.bin o a b).tree.head = o.txt := rfl
   simp only [Ex.bin.sizeOf_spec] at hlt
   simp only [Ex.ok, Bool.and_eq_true, decide_eq_true_eq] at hok
   simp only [Ex.nb] at hk hg ⊢
   simp only [Ex.size] at hfl
   obtain ⟨_, hrl⟩ : ∃ _ : True, RepL I (Ex.bin o a b).tree.parts _ := ⟨trivial, hcl⟩
   simp only [show (Ex.bin o a b).tree.parts = [.node o.txt [], a.tree, b.tree] from rfl, D7, List.cons_append, List.nil_append] at hrl ⊢
   refine Cu (fun w h => h.f4) ?_; refine Al rfl (Oa rfl (Ab (Ah (Se rfl ?_)))); refine Az rfl .free rfl ?_; refine Ca rfl (Bl hf.rep _) ?_; rintro _ _ _ _ ⟨rfl, rfl, rfl⟩; refine Ab (Aq (Se rfl (Od rfl rfl rfl (Oa rfl (Ab ?_)))))
   first | refine Ez rfl Il ?_ | refine Ey rfl Il ?_ | refine A0 Ar ?_
   refine Se rfl (Od rfl rfl rfl (Oa rfl (Ab ?_)))
   first | refine Ez rfl Il ?_ | refine Ey rfl Il ?_ | refine A0 Ar ?_
   refine Ak (Ap (Ah (Se rfl ?_))); refine Az rfl .free rfl ?_; refine Ca rfl (Du hf.rep _) ?_; rintro _ J _ e0 ⟨ok, ck, rfl, hk1, rfl⟩
   have hf := hf.mono e0
   have hfr := hfr.mono e0
   have hto := hto.mono e0
   have hav := hav.mono e0
   have hle := hle.trans e0
   rw [hki] at hk1; rw [hki]; refine On rfl (Om rfl (Ab (Aq ?_))); refine Ee ?_; refine Se rfl (Oc rfl rfl rfl (Ab (Ah ?_))); refine B6 rfl Ay ?_; refine Ak (Ah (Aq (Se rfl ?_)))
   first | refine Bs rfl rfl _ rfl .free rfl ?_ | refine Bt rfl rfl _ rfl .free rfl ?_
   refine Er rfl .free rfl ?_; refine Oa rfl (Ab (Se rfl (Om rfl (Om rfl (Oa rfl (Oa rfl (Ab (Ah (Se rfl ?_))))))))); refine Az rfl .free rfl ?_; refine Om rfl ?_; refine Ca rfl (Ct hf.rep hok0 _ _) ?_; rintro _ J1 _ e1 ⟨o1, k1, rfl, hs1, rfl⟩
   have hf := hf.mono e1
   have hfr := hfr.mono e1
   have hto := hto.mono e1
   have hav := hav.mono e1
   have hle := hle.trans e1
   have hk1 := hk1.mono e1
   refine Oa rfl (Ab (Se rfl (Om rfl (On rfl (Oc rfl rfl rfl (Ab ?_))))))
   first | refine Ez rfl D0 ?_ | refine Ey rfl D0 ?_ | refine A0 Ar ?_
   refine Ak ?_; refine C9 fun hlr => ?_
   have hpl := a.pl_hits av (f) (t) k
   refine Hl 14 rfl rfl ?_; refine Da 0 rfl (Aj rfl) ?_; refine Dt 1 [13] rfl (Bo rfl) ?_; refine Da 2 rfl (Ai rfl) ?_; refine Da 3 rfl (Ai rfl) ?_; refine Da 4 rfl (Aj rfl) ?_; refine Dt 5 [13] rfl (Bo rfl) ?_; refine Da 6 rfl (Ai rfl) ?_
   first | refine Da 7 rfl (Bc rfl rfl _ rfl) ?_ | refine Da 7 rfl (Bd rfl rfl _ rfl) ?_
   refine Dt 8 [13] rfl (C5 rfl) ?_; refine Da 9 rfl (Ai rfl) ?_; refine Da 10 rfl (Ai rfl) ?_; refine Dc 11 rfl rfl (ihn (f := f) (t := t) Aa (hf.as 1 a.tree Aa rfl) hok.1 hfr hto D6 hnf Cq hav bp _ _ Aa Aa _) ?_; rintro _ J2 _ e2 ⟨cs2, rfl, hr_0, rfl⟩; obtain ⟨o2, k2, _, rfl, -⟩ := hr_0.open
   have hlr := hlr.trans e2
   have hf := hf.mono e2
   have hfr := hfr.mono e2
   have hto := hto.mono e2
   have hav := hav.mono e2
   have hle := hle.trans e2
   have hk1 := hk1.mono e2
   refine Hx ?_
   first | refine Da 12 rfl (Bc rfl rfl _ rfl) ?_ | refine Da 12 rfl (Bd rfl rfl _ rfl) ?_
   refine Dx 13 rfl rfl rfl rfl ?_; refine A5 Af ?_; refine Ap (Al rfl ?_); refine Or rfl rfl rfl ?_; refine Om rfl (Ab ?_); refine Bz ?_; refine Se rfl (Oc rfl rfl rfl (Ab (Ah ?_))); refine B6 rfl Ay ?_; refine Ak (Ah (Aq (Se rfl ?_)))
   first | refine Bs rfl rfl _ rfl .free rfl ?_ | refine Bt rfl rfl _ rfl .free rfl ?_
   refine Er rfl .free rfl ?_; refine Oa rfl (Ab (Se rfl (Om rfl (Om rfl (Oa rfl (Oa rfl (Ab (Ah (Se rfl ?_))))))))); refine Az rfl .free rfl ?_; refine Om rfl ?_; refine Ca rfl (Ct hf.rep hok0 _ _) ?_; rintro _ J1 _ e1 ⟨o1, k1, rfl, hs1, rfl⟩
   have hf := hf.mono e1
   have hfr := hfr.mono e1
   have hto := hto.mono e1
   have hav := hav.mono e1
   have hle := hle.trans e1
   have hk1 := hk1.mono e1
   have hr_0 := hr_0.mono e1
   refine Oa rfl (Ab (Se rfl (Om rfl (On rfl (Oc rfl rfl rfl (Ab ?_))))))
   first | refine Ez rfl D0 ?_ | refine Ey rfl D0 ?_ | refine A0 Ar ?_
   refine Ak ?_; refine C9 fun hlr => ?_
   have hpl := b.pl_hits av (f) (t) (a.pl av (f) (t) k).2
   refine Hl 14 rfl rfl ?_; refine Da 0 rfl (Aj rfl) ?_; refine Dt 1 [13] rfl (Bo rfl) ?_; refine Da 2 rfl (Ai rfl) ?_; refine Da 3 rfl (Ai rfl) ?_; refine Da 4 rfl (Aj rfl) ?_; refine Dt 5 [13] rfl (Bo rfl) ?_; refine Da 6 rfl (Ai rfl) ?_
   first | refine Da 7 rfl (Bc rfl rfl _ rfl) ?_ | refine Da 7 rfl (Bd rfl rfl _ rfl) ?_
   refine Dt 8 [13] rfl (C5 rfl) ?_; refine Da 9 rfl (Ai rfl) ?_; refine Da 10 rfl (Ai rfl) ?_; refine Dc 11 rfl rfl (ihn (f := f) (t := t) Aa (hf.as 2 b.tree Aa rfl) hok.2 hfr hto D6 hnf Cq hav bp _ _ Aa Aa _) ?_; rintro _ J2 _ e2 ⟨cs2, rfl, hr_1, rfl⟩; obtain ⟨o2, k2, _, rfl, -⟩ := hr_1.open
   have hlr := hlr.trans e2
   have hf := hf.mono e2
   have hfr := hfr.mono e2
   have hto := hto.mono e2
   have hav := hav.mono e2
   have hle := hle.trans e2
   have hk1 := hk1.mono e2
   have hr_0 := hr_0.mono e2
   refine Hx ?_
   first | refine Da 12 rfl (Bc rfl rfl _ rfl) ?_ | refine Da 12 rfl (Bd rfl rfl _ rfl) ?_
   refine Dx 13 rfl rfl rfl rfl ?_; refine A5 Af ?_; refine Ap (Al rfl ?_); refine Or rfl rfl rfl ?_; refine Om rfl (Ab ?_); refine Bz ?_; refine Se rfl (Oc rfl rfl rfl (Ab (Ah ?_))); refine De rfl Ay ?_; refine Cc rfl ?_; refine Se rfl ?_; refine Az rfl .free rfl ?_; refine By rfl rfl rfl rfl .free ?_; refine Ab ?_; refine Cu (fun w h => h.f2) (Bu ?_); intro hz
   have hf := hf.mono hz
   refine Am (.c rfl .nil) ?_
   exact ⟨_, _, hle.trans hz, fun w h => Mem.sub (L' := pn bp ov av cv _ _ :: L) A7 h, _, rfl, .mk' rfl (.cons (hf.as 0 (.node o.txt []) Aa rfl) (.cons (hr_0.mono hz) (.cons (hr_1.mono hz) (.nil)))) (fun y hy => by cases hy; exact A9 (xs := [_, _, _, _, _, _])) Ae hcc Bf Bf, by first | rfl | (simp only [Nat.add_assoc]; rfl)⟩
  ·skip
   have hlen : (Ex.ite a b d).tree.parts.length = 4 := rfl
   have hki := L6 a b d
   have hhd : (Ex.ite a b d).tree.head = Gy := rfl
   simp only [Ex.ite.sizeOf_spec] at hlt
   simp only [Ex.ok, Bool.and_eq_true, decide_eq_true_eq] at hok
   simp only [Ex.nb] at hk hg ⊢
   simp only [Ex.size] at hfl
   obtain ⟨_, hrl⟩ : ∃ _ : True, RepL I (Ex.ite a b d).tree.parts _ := ⟨trivial, hcl⟩
   simp only [show (Ex.ite a b d).tree.parts = [.node Gy [], a.tree, b.tree, d.tree] from rfl, D7, List.cons_append, List.nil_append] at hrl ⊢
   refine Cu (fun w h => h.f4) ?_; refine Al rfl (Oa rfl (Ab (Ah (Se rfl ?_)))); refine Az rfl .free rfl ?_; refine Ca rfl (Bl hf.rep _) ?_; rintro _ _ _ _ ⟨rfl, rfl, rfl⟩; refine Ab (Aq (Se rfl (Od rfl rfl rfl (Oa rfl (Ab ?_)))))
   first | refine Ez rfl (by rw [hhd]; decide) ?_ | refine Ey rfl (by rw [hhd]; decide) ?_ | refine A0 Ar ?_
   refine Se rfl (Od rfl rfl rfl (Oa rfl (Ab ?_)))
   first | refine Ez rfl (by rw [hhd]; decide) ?_ | refine Ey rfl (by rw [hhd]; decide) ?_ | refine A0 Ar ?_
   refine Ak (Ap (Ah (Se rfl ?_))); refine Az rfl .free rfl ?_; refine Ca rfl (Du hf.rep _) ?_; rintro _ J _ e0 ⟨ok, ck, rfl, hk1, rfl⟩
   have hf := hf.mono e0
   have hfr := hfr.mono e0
   have hto := hto.mono e0
   have hav := hav.mono e0
   have hle := hle.trans e0
   rw [hki] at hk1; rw [hki]; refine On rfl (Om rfl (Ab (Aq ?_))); refine Ee ?_; refine Se rfl (Oc rfl rfl rfl (Ab (Ah ?_))); refine B6 rfl Ay ?_; refine Ak (Ah (Aq (Se rfl ?_)))
   first | refine Bs rfl rfl _ rfl .free rfl ?_ | refine Bt rfl rfl _ rfl .free rfl ?_
   refine Er rfl .free rfl ?_; refine Oa rfl (Ab (Se rfl (Om rfl (Om rfl (Oa rfl (Oa rfl (Ab (Ah (Se rfl ?_))))))))); refine Az rfl .free rfl ?_; refine Om rfl ?_; refine Ca rfl (Ct hf.rep hok0 _ _) ?_; rintro _ J1 _ e1 ⟨o1, k1, rfl, hs1, rfl⟩
   have hf := hf.mono e1
   have hfr := hfr.mono e1
   have hto := hto.mono e1
   have hav := hav.mono e1
   have hle := hle.trans e1
   have hk1 := hk1.mono e1
   refine Oa rfl (Ab (Se rfl (Om rfl (On rfl (Oc rfl rfl rfl (Ab ?_))))))
   first | refine Ez rfl D0 ?_ | refine Ey rfl D0 ?_ | refine A0 Ar ?_
   refine Ak ?_; refine C9 fun hlr => ?_
   have hpl := a.pl_hits av (f) (t) k
   refine Hl 14 rfl rfl ?_; refine Da 0 rfl (Aj rfl) ?_; refine Dt 1 [13] rfl (Bo rfl) ?_; refine Da 2 rfl (Ai rfl) ?_; refine Da 3 rfl (Ai rfl) ?_; refine Da 4 rfl (Aj rfl) ?_; refine Dt 5 [13] rfl (Bo rfl) ?_; refine Da 6 rfl (Ai rfl) ?_
   first | refine Da 7 rfl (Bc rfl rfl _ rfl) ?_ | refine Da 7 rfl (Bd rfl rfl _ rfl) ?_
   refine Dt 8 [13] rfl (C5 rfl) ?_; refine Da 9 rfl (Ai rfl) ?_; refine Da 10 rfl (Ai rfl) ?_; refine Dc 11 rfl rfl (ihn (f := f) (t := t) Aa (hf.as 1 a.tree Aa rfl) hok.1.1 hfr hto D6 hnf Cq hav bp _ _ Aa Aa _) ?_; rintro _ J2 _ e2 ⟨cs2, rfl, hr_0, rfl⟩; obtain ⟨o2, k2, _, rfl, -⟩ := hr_0.open
   have hlr := hlr.trans e2
   have hf := hf.mono e2
   have hfr := hfr.mono e2
   have hto := hto.mono e2
   have hav := hav.mono e2
   have hle := hle.trans e2
   have hk1 := hk1.mono e2
   refine Hx ?_
   first | refine Da 12 rfl (Bc rfl rfl _ rfl) ?_ | refine Da 12 rfl (Bd rfl rfl _ rfl) ?_
   refine Dx 13 rfl rfl rfl rfl ?_; refine A5 Af ?_; refine Ap (Al rfl ?_); refine Or rfl rfl rfl ?_; refine Om rfl (Ab ?_); refine Bz ?_; refine Se rfl (Oc rfl rfl rfl (Ab (Ah ?_))); refine B6 rfl Ay ?_; refine Ak (Ah (Aq (Se rfl ?_)))
   first | refine Bs rfl rfl _ rfl .free rfl ?_ | refine Bt rfl rfl _ rfl .free rfl ?_
   refine Er rfl .free rfl ?_; refine Oa rfl (Ab (Se rfl (Om rfl (Om rfl (Oa rfl (Oa rfl (Ab (Ah (Se rfl ?_))))))))); refine Az rfl .free rfl ?_; refine Om rfl ?_; refine Ca rfl (Ct hf.rep hok0 _ _) ?_; rintro _ J1 _ e1 ⟨o1, k1, rfl, hs1, rfl⟩
   have hf := hf.mono e1
   have hfr := hfr.mono e1
   have hto := hto.mono e1
   have hav := hav.mono e1
   have hle := hle.trans e1
   have hk1 := hk1.mono e1
   have hr_0 := hr_0.mono e1
   refine Oa rfl (Ab (Se rfl (Om rfl (On rfl (Oc rfl rfl rfl (Ab ?_))))))
   first | refine Ez rfl D0 ?_ | refine Ey rfl D0 ?_ | refine A0 Ar ?_
   refine Ak ?_; refine C9 fun hlr => ?_
   have hpl := b.pl_hits av (f) (t) (a.pl av (f) (t) k).2
   refine Hl 14 rfl rfl ?_; refine Da 0 rfl (Aj rfl) ?_; refine Dt 1 [13] rfl (Bo rfl) ?_; refine Da 2 rfl (Ai rfl) ?_; refine Da 3 rfl (Ai rfl) ?_; refine Da 4 rfl (Aj rfl) ?_; refine Dt 5 [13] rfl (Bo rfl) ?_; refine Da 6 rfl (Ai rfl) ?_
   first | refine Da 7 rfl (Bc rfl rfl _ rfl) ?_ | refine Da 7 rfl (Bd rfl rfl _ rfl) ?_
   refine Dt 8 [13] rfl (C5 rfl) ?_; refine Da 9 rfl (Ai rfl) ?_; refine Da 10 rfl (Ai rfl) ?_; refine Dc 11 rfl rfl (ihn (f := f) (t := t) Aa (hf.as 2 b.tree Aa rfl) hok.1.2 hfr hto D6 hnf Cq hav bp _ _ Aa Aa _) ?_; rintro _ J2 _ e2 ⟨cs2, rfl, hr_1, rfl⟩; obtain ⟨o2, k2, _, rfl, -⟩ := hr_1.open
   have hlr := hlr.trans e2
   have hf := hf.mono e2
   have hfr := hfr.mono e2
   have hto := hto.mono e2
   have hav := hav.mono e2
   have hle := hle.trans e2
   have hk1 := hk1.mono e2
   have hr_0 := hr_0.mono e2
   refine Hx ?_
   first | refine Da 12 rfl (Bc rfl rfl _ rfl) ?_ | refine Da 12 rfl (Bd rfl rfl _ rfl) ?_
   refine Dx 13 rfl rfl rfl rfl ?_; refine A5 Af ?_; refine Ap (Al rfl ?_); refine Or rfl rfl rfl ?_; refine Om rfl (Ab ?_); refine Bz ?_; refine Se rfl (Oc rfl rfl rfl (Ab (Ah ?_))); refine B6 rfl Ay ?_; refine Ak (Ah (Aq (Se rfl ?_)))
   first | refine Bs rfl rfl _ rfl .free rfl ?_ | refine Bt rfl rfl _ rfl .free rfl ?_
   refine Er rfl .free rfl ?_; refine Oa rfl (Ab (Se rfl (Om rfl (Om rfl (Oa rfl (Oa rfl (Ab (Ah (Se rfl ?_))))))))); refine Az rfl .free rfl ?_; refine Om rfl ?_; refine Ca rfl (Ct hf.rep hok0 _ _) ?_; rintro _ J1 _ e1 ⟨o1, k1, rfl, hs1, rfl⟩
   have hf := hf.mono e1
   have hfr := hfr.mono e1
   have hto := hto.mono e1
   have hav := hav.mono e1
   have hle := hle.trans e1
   have hk1 := hk1.mono e1
   have hr_0 := hr_0.mono e1
   have hr_1 := hr_1.mono e1
   refine Oa rfl (Ab (Se rfl (Om rfl (On rfl (Oc rfl rfl rfl (Ab ?_))))))
   first | refine Ez rfl D0 ?_ | refine Ey rfl D0 ?_ | refine A0 Ar ?_
   refine Ak ?_; refine C9 fun hlr => ?_
   have hpl := d.pl_hits av (f) (t) (b.pl av (f) (t) (a.pl av (f) (t) k).2).2
   refine Hl 14 rfl rfl ?_; refine Da 0 rfl (Aj rfl) ?_; refine Dt 1 [13] rfl (Bo rfl) ?_; refine Da 2 rfl (Ai rfl) ?_; refine Da 3 rfl (Ai rfl) ?_; refine Da 4 rfl (Aj rfl) ?_; refine Dt 5 [13] rfl (Bo rfl) ?_; refine Da 6 rfl (Ai rfl) ?_
   first | refine Da 7 rfl (Bc rfl rfl _ rfl) ?_ | refine Da 7 rfl (Bd rfl rfl _ rfl) ?_
   refine Dt 8 [13] rfl (C5 rfl) ?_; refine Da 9 rfl (Ai rfl) ?_; refine Da 10 rfl (Ai rfl) ?_; refine Dc 11 rfl rfl (ihn (f := f) (t := t) Aa (hf.as 3 d.tree Aa rfl) hok.2 hfr hto D6 hnf Cq hav bp _ _ Aa Aa _) ?_; rintro _ J2 _ e2 ⟨cs2, rfl, hr_2, rfl⟩; obtain ⟨o2, k2, _, rfl, -⟩ := hr_2.open
   have hlr := hlr.trans e2
   have hf := hf.mono e2
   have hfr := hfr.mono e2
   have hto := hto.mono e2
   have hav := hav.mono e2
   have hle := hle.trans e2
   have hk1 := hk1.mono e2
   have hr_0 := hr_0.mono e2
   have hr_1 := hr_1.mono e2
   refine Hx ?_
   first | refine Da 12 rfl (Bc rfl rfl _ rfl) ?_ | refine Da 12 rfl (Bd rfl rfl _ rfl) ?_
   refine Dx 13 rfl rfl rfl rfl ?_; refine A5 Af ?_; refine Ap (Al rfl ?_); refine Or rfl rfl rfl ?_; refine Om rfl (Ab ?_); refine Bz ?_; refine Se rfl (Oc rfl rfl rfl (Ab (Ah ?_))); refine De rfl Ay ?_; refine Cc rfl ?_; refine Se rfl ?_; refine Az rfl .free rfl ?_; refine By rfl rfl rfl rfl .free ?_; refine Ab ?_; refine Cu (fun w h => h.f2) (Bu ?_); intro hz
   have hf := hf.mono hz
   refine Am (.c rfl .nil) ?_
   exact ⟨_, _, hle.trans hz, fun w h => Mem.sub (L' := pn bp ov av cv _ _ :: L) A7 h, _, rfl, .mk' rfl (.cons (hf.as 0 (.node Gy []) Aa rfl) (.cons (hr_0.mono hz) (.cons (hr_1.mono hz) (.cons (hr_2.mono hz) (.nil))))) (fun y hy => by cases hy; exact A9 (xs := [_, _, _, _, _, _, _, _])) Ae hcc Bf Bf, by first | rfl | (simp only [Nat.add_assoc]; rfl)⟩
  ·skip
   have hlen : (Ex.lt z a b).tree.parts.length = 4 := rfl
   have hki := L7 z a b
   have hhd : (Ex.lt z a b).tree.head = Dz := rfl
   simp only [Ex.lt.sizeOf_spec] at hlt
   simp only [Ex.ok, Bool.and_eq_true, decide_eq_true_eq] at hok
   simp only [Ex.nb] at hk hg ⊢
   simp only [Ex.size] at hfl
   obtain ⟨_, hrl⟩ : ∃ _ : True, RepL I (Ex.lt z a b).tree.parts _ := ⟨trivial, hcl⟩
   simp only [show (Ex.lt z a b).tree.parts = [.node Dz [], .node z [], a.tree, b.tree] from rfl, D7, List.cons_append, List.nil_append] at hrl ⊢
   refine Cu (fun w h => h.f4) ?_; refine Al rfl (Oa rfl (Ab (Ah (Se rfl ?_)))); refine Az rfl .free rfl ?_; refine Ca rfl (Bl hf.rep _) ?_; rintro _ _ _ _ ⟨rfl, rfl, rfl⟩; refine Ab (Aq (Se rfl (Od rfl rfl rfl (Oa rfl (Ab ?_)))))
   first | refine K3 rfl (by rw [hhd]; rfl) ?_ | refine K2 rfl (by rw [hhd]; rfl) ?_ | refine B9 Ar ?_
   refine Ah ?_; obtain ⟨x1, x2, x3⟩ := Dv 120 av k
   have x4 := Eo 120 av k
   have x5 := Bp 120 av (fr 120 av k)
   have x6 := Bp 120 av (fr 120 av k + 1)
   refine Al rfl (Om rfl ?_); refine Ca rfl (Kp hav bp g k Aa Aa _) ?_; rintro _ _ _ _ ⟨rfl, rfl, rfl⟩
   have hnl1 := Qu (n := fr 120 av k) Aa
   generalize hn1e : nm 120 (fr 120 av k) = n1 at hnl1 ⊢
   refine Ol rfl rfl ?_; intro b41; refine Eb [n1] Bf (by intro y hy; rw [List.mem_singleton.1 hy]; exact hnl1) ?_; intro J1 ez hnm
   have hn0 := hnm.st 0 Ae
   have hf := hf.mono ez
   have hfr := hfr.mono ez
   have hto := hto.mono ez
   have hav := hav.mono ez
   have hle := hle.trans ez
   refine Oa rfl (Ab ?_); refine Fh 8 rfl rfl ?_; refine Da 0 rfl (Aj rfl) ?_; refine Dt 1 [7] rfl (Bo rfl) ?_; refine Da 2 rfl (Ai rfl) ?_
   first | refine Da 3 rfl (Bc rfl rfl 0 rfl) ?_ | refine Da 3 rfl (Bd rfl rfl 0 rfl) ?_
   refine Dt 4 [7] rfl (T0 rfl) ?_; refine Dc 5 rfl rfl (Li n1 hnl1 _ _) ?_; rintro _ _ _ _ ⟨rfl, rfl, rfl⟩; refine Hx ?_
   first | refine Da 6 rfl (Bc rfl rfl 1 rfl) ?_ | refine Da 6 rfl (Bd rfl rfl 1 rfl) ?_
   refine Dx 7 rfl rfl rfl rfl ?_; refine A5 Af ?_; refine Ap (Ah (Se rfl ?_)); refine Az rfl .free rfl ?_; refine Ca rfl (Du hf.rep _) ?_; rintro _ J _ e0 ⟨ok, ck, rfl, hk1, rfl⟩
   have hf := hf.mono e0
   have hfr := hfr.mono e0
   have hto := hto.mono e0
   have hav := hav.mono e0
   have hle := hle.trans e0
   rw [hki] at hk1; rw [hki]
   have hnm := hnm.mono e0
   refine On rfl (Om rfl (Ab (Aq ?_))); refine Ee ?_; refine Se rfl (Oc rfl rfl rfl (Ab (Ah ?_))); refine B6 rfl Ay ?_; refine Ak (Ah (Aq (Se rfl ?_)))
   first | refine Bs rfl rfl _ rfl .free rfl ?_ | refine Bt rfl rfl _ rfl .free rfl ?_
   refine Er rfl .free rfl ?_; refine Oa rfl (Ab (Se rfl (Om rfl (Om rfl (Oa rfl (Oa rfl (Ab (Ah (Se rfl ?_))))))))); refine Az rfl .free rfl ?_; refine Om rfl ?_; refine Ca rfl (Ct hf.rep hok0 _ _) ?_; rintro _ J1 _ e1 ⟨o1, k1, rfl, hs1, rfl⟩
   have hf := hf.mono e1
   have hfr := hfr.mono e1
   have hto := hto.mono e1
   have hav := hav.mono e1
   have hle := hle.trans e1
   have hk1 := hk1.mono e1
   have hnm := hnm.mono e1
   refine Oa rfl (Ab (Se rfl (Om rfl (On rfl (Oc rfl rfl rfl (Ab ?_))))))
   first | refine Ez rfl D0 ?_ | refine Ey rfl D0 ?_ | refine A0 Ar ?_
   refine Ak ?_; refine C9 fun hlr => ?_
   have hpl := a.pl_hits av (f) (t) (fr 120 av k + 1)
   refine Hl 14 rfl rfl ?_; refine Da 0 rfl (Aj rfl) ?_; refine Dt 1 [13] rfl (Bo rfl) ?_; refine Da 2 rfl (Ai rfl) ?_; refine Da 3 rfl (Ai rfl) ?_; refine Da 4 rfl (Aj rfl) ?_; refine Dt 5 [13] rfl (Bo rfl) ?_; refine Da 6 rfl (Ai rfl) ?_
   first | refine Da 7 rfl (Bc rfl rfl _ rfl) ?_ | refine Da 7 rfl (Bd rfl rfl _ rfl) ?_
   refine Dt 8 [13] rfl (C5 rfl) ?_; refine Da 9 rfl (Ai rfl) ?_; refine Da 10 rfl (Ai rfl) ?_; refine Dc 11 rfl rfl (ihn (f := f) (t := t) Aa (hf.as 2 a.tree Aa rfl) hok.1.2 hfr hto D6 hnf Cq hav bp _ _ Aa Aa _) ?_; rintro _ J2 _ e2 ⟨cs2, rfl, hr_0, rfl⟩; obtain ⟨o2, k2, _, rfl, -⟩ := hr_0.open
   have hlr := hlr.trans e2
   have hf := hf.mono e2
   have hfr := hfr.mono e2
   have hto := hto.mono e2
   have hav := hav.mono e2
   have hle := hle.trans e2
   have hk1 := hk1.mono e2
   have hnm := hnm.mono e2
   refine Hx ?_
   first | refine Da 12 rfl (Bc rfl rfl _ rfl) ?_ | refine Da 12 rfl (Bd rfl rfl _ rfl) ?_
   refine Dx 13 rfl rfl rfl rfl ?_; refine A5 Af ?_; refine Ap (Al rfl ?_); refine Or rfl rfl rfl ?_; refine Om rfl (Ab ?_); refine Bz ?_; refine Se rfl (Oc rfl rfl rfl (Ab (Ah ?_))); refine B6 rfl Ay ?_; refine Ak (Ah (Aq (Se rfl ?_)))
   first | refine Bs rfl rfl _ rfl .free rfl ?_ | refine Bt rfl rfl _ rfl .free rfl ?_
   refine Er rfl .free rfl ?_; refine Oa rfl (Ab (Se rfl (Om rfl (Om rfl (Oa rfl (Oa rfl (Ab (Ah (Se rfl ?_))))))))); refine Az rfl .free rfl ?_; refine Om rfl ?_; refine Ca rfl (Ct hf.rep hok0 _ _) ?_; rintro _ J1 _ e1 ⟨o1, k1, rfl, hs1, rfl⟩
   have hf := hf.mono e1
   have hfr := hfr.mono e1
   have hto := hto.mono e1
   have hav := hav.mono e1
   have hle := hle.trans e1
   have hk1 := hk1.mono e1
   have hr_0 := hr_0.mono e1
   have hnm := hnm.mono e1
   refine Oa rfl (Ab (Se rfl (Om rfl (On rfl (Oc rfl rfl rfl (Ab ?_))))))
   first | refine K3 rfl D0 ?_ | refine K2 rfl D0 ?_ | refine B9 Ar ?_
   refine Al rfl (Om rfl (Om rfl ?_)); refine Ol rfl rfl ?_; intro b87; refine Gu ?_; intro ez
   have hf := hf.mono ez
   have hfr := hfr.mono ez
   have hto := hto.mono ez
   have hav := hav.mono ez
   have hle := hle.trans ez
   have hk1 := hk1.mono ez
   have hr_0 := hr_0.mono ez
   have hnm := hnm.mono ez
   refine Ca rfl (Cf (A9 (xs := [.slice of f.length cf, .slice o1 (List.length _) k1]) (ys := [])) hfr (hs1.mono ez) (Ex.binds_room0 Aa) _) ?_; rintro _ J3 _ e3 ⟨o3, k3, rfl, hs3, rfl⟩
   have hf := hf.mono e3
   have hfr := hfr.mono e3
   have hto := hto.mono e3
   have hav := hav.mono e3
   have hle := hle.trans e3
   have hk1 := hk1.mono e3
   have hr_0 := hr_0.mono e3
   have hnm := hnm.mono e3
   refine Om rfl (Om rfl ?_); refine Ol rfl rfl ?_; intro b91; refine Gu ?_; intro ey
   have hf := hf.mono ey
   have hfr := hfr.mono ey
   have hto := hto.mono ey
   have hav := hav.mono ey
   have hle := hle.trans ey
   have hk1 := hk1.mono ey
   have hr_0 := hr_0.mono ey
   have hnm := hnm.mono ey
   have hs3 := hs3.mono ey
   refine Ca rfl (Cf (m := [n1]) (A9 (xs := [.slice ot t.length ct, .slice (some ⟨_, 0, none⟩) (List.length _) _]) (ys := [])) hto hnm (show t.length + 1 ≤ Bg by unfold Bg; omega) _) ?_; rintro _ J4 _ e4 ⟨o4, k4, rfl, hs4, rfl⟩
   have hf := hf.mono e4
   have hfr := hfr.mono e4
   have hto := hto.mono e4
   have hav := hav.mono e4
   have hle := hle.trans e4
   have hk1 := hk1.mono e4
   have hr_0 := hr_0.mono e4
   have hnm := hnm.mono e4
   have hs3 := hs3.mono e4
   refine Oa rfl (Oa rfl (Ab ?_)); refine C9 fun hlr => ?_
   have hpl := b.pl_hits av (f ++ [z]) (t ++ [n1]) (a.pl av (f) (t) (fr 120 av k + 1)).2
   refine Hl 14 rfl rfl ?_; refine Da 0 rfl (Aj rfl) ?_; refine Dt 1 [13] rfl (Bo rfl) ?_; refine Da 2 rfl (Ai rfl) ?_; refine Da 3 rfl (Ai rfl) ?_; refine Da 4 rfl (Aj rfl) ?_; refine Dt 5 [13] rfl (Bo rfl) ?_; refine Da 6 rfl (Ai rfl) ?_
   first | refine Da 7 rfl (Bc rfl rfl _ rfl) ?_ | refine Da 7 rfl (Bd rfl rfl _ rfl) ?_
   refine Dt 8 [13] rfl (C5 rfl) ?_; refine Da 9 rfl (Ai rfl) ?_; refine Da 10 rfl (Ai rfl) ?_; refine Dc 11 rfl rfl (ihn (f := f ++ [z]) (t := t ++ [n1]) Aa (hf.as 3 b.tree Aa rfl) hok.2 hs3 hs4 D6 (hnf.add (by intro y hy; rw [List.mem_singleton.1 hy]; exact hok.1.1)) Cq hav bp _ _ Aa Aa _) ?_; rintro _ J2 _ e2 ⟨cs2, rfl, hr_1, rfl⟩; obtain ⟨o2, k2, _, rfl, -⟩ := hr_1.open
   have hlr := hlr.trans e2
   have hf := hf.mono e2
   have hfr := hfr.mono e2
   have hto := hto.mono e2
   have hav := hav.mono e2
   have hle := hle.trans e2
   have hk1 := hk1.mono e2
   have hr_0 := hr_0.mono e2
   have hnm := hnm.mono e2
   refine Hx ?_
   first | refine Da 12 rfl (Bc rfl rfl _ rfl) ?_ | refine Da 12 rfl (Bd rfl rfl _ rfl) ?_
   refine Dx 13 rfl rfl rfl rfl ?_; refine A5 Af ?_; refine Ap (Al rfl ?_); refine Or rfl rfl rfl ?_; refine Om rfl (Ab ?_); refine Bz ?_; refine Se rfl (Oc rfl rfl rfl (Ab (Ah ?_))); refine De rfl Ay ?_; refine Cc rfl ?_; refine Se rfl ?_; refine Az rfl .free rfl ?_; refine By rfl rfl rfl rfl .free ?_; refine Ab ?_; refine Cu (fun w h => h.f2) (Bu ?_); intro hz
   have hf := hf.mono hz
   refine Am (.c rfl .nil) ?_; subst hn1e
   exact ⟨_, _, hle.trans hz, fun w h => Mem.sub (L' := pn bp ov av cv _ _ :: L) A7 h, _, rfl, .mk' rfl (.cons (hf.as 0 (.node Dz []) Aa rfl) (.cons (.ofAtom hnl1) (.cons (hr_0.mono hz) (.cons (hr_1.mono hz) (.nil))))) (fun y hy => by cases hy; exact A9 (xs := [_, _, _, _, _, _, _, _])) Ae hcc Bf Bf, by first | rfl | (simp only [Nat.add_assoc]; rfl)⟩
  ·skip
   have hlen : (Ex.fn h1 z s u b).tree.parts.length = 6 := rfl
   have hki := Mh h1 z s u b
   have hhd : (Ex.fn h1 z s u b).tree.head = Dk := rfl
   simp only [Ex.fn.sizeOf_spec] at hlt
   simp only [Ex.ok, Bool.and_eq_true, decide_eq_true_eq] at hok
   simp only [Ex.nb] at hk hg ⊢
   simp only [Ex.size] at hfl
   obtain ⟨_, hrl⟩ : ∃ _ : True, RepL I (Ex.fn h1 z s u b).tree.parts _ := ⟨trivial, hcl⟩
   simp only [show (Ex.fn h1 z s u b).tree.parts = [.node Dk [], .node h1 [], .node z [], s.tree, u.tree, b.tree] from rfl, D7, List.cons_append, List.nil_append] at hrl ⊢
   refine Cu (fun w h => h.f4) ?_; refine Al rfl (Oa rfl (Ab (Ah (Se rfl ?_)))); refine Az rfl .free rfl ?_; refine Ca rfl (Bl hf.rep _) ?_; rintro _ _ _ _ ⟨rfl, rfl, rfl⟩; refine Ab (Aq (Se rfl (Od rfl rfl rfl (Oa rfl (Ab ?_)))))
   first | refine Ez rfl (by rw [hhd]; decide) ?_ | refine Ey rfl (by rw [hhd]; decide) ?_ | refine A0 Ar ?_
   refine Se rfl (Od rfl rfl rfl (Oa rfl (Ab ?_)))
   first | refine K3 rfl (by rw [hhd]; rfl) ?_ | refine K2 rfl (by rw [hhd]; rfl) ?_ | refine B9 Ar ?_
   refine Ah ?_; obtain ⟨x1, x2, x3⟩ := Dv 120 av k
   have x4 := Eo 120 av k
   have x5 := Bp 120 av (fr 120 av k)
   have x6 := Bp 120 av (fr 120 av k + 1)
   obtain ⟨y1, y2, y3⟩ := Dv 120 av (fr 120 av k + 1)
   have y4 := Eo 120 av (fr 120 av k + 1)
   have y5 := Bp 120 av (fr 120 av (fr 120 av k + 1))
   have y6 := Bp 120 av (fr 120 av (fr 120 av k + 1) + 1)
   refine Al rfl (Om rfl ?_); refine Ca rfl (Kp hav bp g k Aa Aa _) ?_; rintro _ _ _ _ ⟨rfl, rfl, rfl⟩
   have hnl1 := Qu (n := fr 120 av k) Aa
   generalize hn1e : nm 120 (fr 120 av k) = n1 at hnl1 ⊢
   refine Om rfl ?_; refine Ca rfl (Kp hav bp (g + 1) (fr 120 av k + 1) Aa Aa _) ?_; rintro _ _ _ _ ⟨rfl, rfl, rfl⟩
   have hnl2 := Qu (n := fr 120 av (fr 120 av k + 1)) Aa
   generalize hn2e : nm 120 (fr 120 av (fr 120 av k + 1)) = n2 at hnl2 ⊢
   refine Ol rfl rfl ?_; intro b55; refine Eb [n1, n2] Bf (by intro y hy; simp only [List.mem_cons, List.not_mem_nil, or_false] at hy; rcases hy with rfl | rfl; exact hnl1; exact hnl2) ?_; intro J1 ez hnm
   have hn0 := hnm.st 0 Ae
   have hn1 := hnm.st 1 Ae
   have hf := hf.mono ez
   have hfr := hfr.mono ez
   have hto := hto.mono ez
   have hav := hav.mono ez
   have hle := hle.trans ez
   refine Oa rfl (Ab ?_); refine Fh 16 rfl rfl ?_; refine Da 0 rfl (Aj rfl) ?_; refine Dt 1 [13] rfl (Bo rfl) ?_; refine Da 2 rfl (Aj rfl) ?_; refine Da 4 rfl (Ai rfl) ?_
   first | refine Da 5 rfl (Bc rfl rfl 0 rfl) ?_ | refine Da 5 rfl (Bd rfl rfl 0 rfl) ?_
   refine Dt 6 [13] rfl (T0 rfl) ?_; refine Da 8 rfl (Ai rfl) ?_
   first | refine Da 9 rfl (Bc rfl rfl 1 rfl) ?_ | refine Da 9 rfl (Bd rfl rfl 1 rfl) ?_
   refine Dt 10 [13] rfl (T0 rfl) ?_; refine Gd 3 7 Af ?_ ?_
   ·skip
    refine Ri 3 rfl rfl (Bo rfl) .free rfl (.inr Au) ?_; refine Dc 7 rfl rfl (Li n1 hnl1 _ _) ?_; rintro _ _ _ _ ⟨rfl, rfl, rfl⟩; refine Hx ?_; refine Dc 11 rfl rfl (Li n2 hnl2 _ _) ?_; rintro _ _ _ _ ⟨rfl, rfl, rfl⟩; refine Hx ?_
    first | refine Da 12 rfl (Bc rfl rfl 1 rfl) ?_ | refine Da 12 rfl (Bd rfl rfl 1 rfl) ?_
    refine Dx 13 rfl rfl rfl rfl ?_
    first | refine Db 14 rfl (Bc rfl rfl 2 rfl) ?_ | refine Db 14 rfl (Bd rfl rfl 2 rfl) ?_
    refine Dx 15 rfl rfl rfl rfl ?_; refine A5 Af ?_; refine Ap (Ah (Se rfl ?_)); refine Az rfl .free rfl ?_; refine Ca rfl (Du hf.rep _) ?_; rintro _ J _ e0 ⟨ok, ck, rfl, hk1, rfl⟩
    have hf := hf.mono e0
    have hfr := hfr.mono e0
    have hto := hto.mono e0
    have hav := hav.mono e0
    have hle := hle.trans e0
    rw [hki] at hk1; rw [hki]
    have hnm := hnm.mono e0
    refine On rfl (Om rfl (Ab (Aq ?_))); refine Ee ?_; refine Se rfl (Oc rfl rfl rfl (Ab (Ah ?_))); refine B6 rfl Ay ?_; refine Ak (Ah (Aq (Se rfl ?_)))
    first | refine Bs rfl rfl _ rfl .free rfl ?_ | refine Bt rfl rfl _ rfl .free rfl ?_
    refine Er rfl .free rfl ?_; refine Oa rfl (Ab (Se rfl (Om rfl (Om rfl (Oa rfl (Oa rfl (Ab (Ah (Se rfl ?_))))))))); refine Az rfl .free rfl ?_; refine Om rfl ?_; refine Ca rfl (Ct hf.rep hok0 _ _) ?_; rintro _ J1 _ e1 ⟨o1, k1, rfl, hs1, rfl⟩
    have hf := hf.mono e1
    have hfr := hfr.mono e1
    have hto := hto.mono e1
    have hav := hav.mono e1
    have hle := hle.trans e1
    have hk1 := hk1.mono e1
    have hnm := hnm.mono e1
    refine Oa rfl (Ab (Se rfl (Om rfl (On rfl (Oc rfl rfl rfl (Ab ?_))))))
    first | refine K3 rfl D0 ?_ | refine K2 rfl D0 ?_ | refine B9 Ar ?_
    refine Al rfl (Om rfl (Om rfl ?_)); refine Ol rfl rfl ?_; intro b87; refine Gu ?_; intro ez
    have hf := hf.mono ez
    have hfr := hfr.mono ez
    have hto := hto.mono ez
    have hav := hav.mono ez
    have hle := hle.trans ez
    have hk1 := hk1.mono ez
    have hnm := hnm.mono ez
    refine Ca rfl (Cf (A9 (xs := [.slice of f.length cf, .slice o1 (List.length _) k1]) (ys := [])) hfr (hs1.mono ez) (Ex.binds_room0 Aa) _) ?_; rintro _ J3 _ e3 ⟨o3, k3, rfl, hs3, rfl⟩
    have hf := hf.mono e3
    have hfr := hfr.mono e3
    have hto := hto.mono e3
    have hav := hav.mono e3
    have hle := hle.trans e3
    have hk1 := hk1.mono e3
    have hnm := hnm.mono e3
    refine Om rfl (Om rfl ?_); refine Ol rfl rfl ?_; intro b91; refine Gu ?_; intro ey
    have hf := hf.mono ey
    have hfr := hfr.mono ey
    have hto := hto.mono ey
    have hav := hav.mono ey
    have hle := hle.trans ey
    have hk1 := hk1.mono ey
    have hnm := hnm.mono ey
    have hs3 := hs3.mono ey
    refine Ca rfl (Cf (m := [n1, n2]) (A9 (xs := [.slice ot t.length ct, .slice (some ⟨_, 0, none⟩) (List.length _) _]) (ys := [])) hto hnm (show t.length + 2 ≤ Bg by unfold Bg; omega) _) ?_; rintro _ J4 _ e4 ⟨o4, k4, rfl, hs4, rfl⟩
    have hf := hf.mono e4
    have hfr := hfr.mono e4
    have hto := hto.mono e4
    have hav := hav.mono e4
    have hle := hle.trans e4
    have hk1 := hk1.mono e4
    have hnm := hnm.mono e4
    have hs3 := hs3.mono e4
    refine Oa rfl (Oa rfl (Ab ?_)); refine C9 fun hlr => ?_
    have hpl := b.pl_hits av (f ++ [h1, z]) (t ++ [n1, n2]) (fr 120 av (fr 120 av k + 1) + 1)
    refine Hl 14 rfl rfl ?_; refine Da 0 rfl (Aj rfl) ?_; refine Dt 1 [13] rfl (Bo rfl) ?_; refine Da 2 rfl (Ai rfl) ?_; refine Da 3 rfl (Ai rfl) ?_; refine Da 4 rfl (Aj rfl) ?_; refine Dt 5 [13] rfl (Bo rfl) ?_; refine Da 6 rfl (Ai rfl) ?_
    first | refine Da 7 rfl (Bc rfl rfl _ rfl) ?_ | refine Da 7 rfl (Bd rfl rfl _ rfl) ?_
    refine Dt 8 [13] rfl (C5 rfl) ?_; refine Da 9 rfl (Ai rfl) ?_; refine Da 10 rfl (Ai rfl) ?_; refine Dc 11 rfl rfl (ihn (f := f ++ [h1, z]) (t := t ++ [n1, n2]) Aa (hf.as 5 b.tree Aa rfl) hok.2 hs3 hs4 D6 (hnf.add Pd) Cq hav bp _ _ Aa Aa _) ?_; rintro _ J2 _ e2 ⟨cs2, rfl, hr_0, rfl⟩; obtain ⟨o2, k2, _, rfl, -⟩ := hr_0.open
    have hlr := hlr.trans e2
    have hf := hf.mono e2
    have hfr := hfr.mono e2
    have hto := hto.mono e2
    have hav := hav.mono e2
    have hle := hle.trans e2
    have hk1 := hk1.mono e2
    have hnm := hnm.mono e2
    refine Hx ?_
    first | refine Da 12 rfl (Bc rfl rfl _ rfl) ?_ | refine Da 12 rfl (Bd rfl rfl _ rfl) ?_
    refine Dx 13 rfl rfl rfl rfl ?_; refine A5 Af ?_; refine Ap (Al rfl ?_); refine Or rfl rfl rfl ?_; refine Om rfl (Ab ?_); refine Bz ?_; refine Se rfl (Oc rfl rfl rfl (Ab (Ah ?_))); refine De rfl Ay ?_; refine Cc rfl ?_; refine Se rfl ?_; refine Az rfl .free rfl ?_; refine By rfl rfl rfl rfl .free ?_; refine Ab ?_; refine Cu (fun w h => h.f2) (Bu ?_); intro hz
    have hf := hf.mono hz
    refine Am (.c rfl .nil) ?_; subst hn1e hn2e
    exact ⟨_, _, hle.trans hz, fun w h => Mem.sub (L' := pn bp ov av cv _ _ :: L) A7 h, _, rfl, .mk' rfl (.cons (hf.as 0 (.node Dk []) Aa rfl) (.cons (.ofAtom hnl1) (.cons (.ofAtom hnl2) (.cons (hf.as 3 (s.tree) Aa rfl) (.cons (hf.as 4 (u.tree) Aa rfl) (.cons (hr_0.mono hz) (.nil))))))) (fun y hy => by cases hy; exact A9 (xs := [_, _, _, _, _, _, _, _, _, _, _, _])) Ae hcc Bf Bf, by rw [show g + (2 + b.nb) = g + 1 + 1 + b.nb by omega]; rfl⟩
   ·skip
    refine Qk 7 rfl rfl rfl .free rfl (Li n1 hnl1 _ _) ?_; rintro _ _ _ _ ⟨rfl, rfl, rfl⟩; refine Hx ?_; refine Gd 3 11 Af ?_ ?_
    ·skip
     refine Ri 3 rfl rfl (Bo rfl) .free rfl (.inr Au) ?_; refine Dc 11 rfl rfl (Li n2 hnl2 _ _) ?_; rintro _ _ _ _ ⟨rfl, rfl, rfl⟩; refine Hx ?_
     first | refine Da 12 rfl (Bc rfl rfl 1 rfl) ?_ | refine Da 12 rfl (Bd rfl rfl 1 rfl) ?_
     refine Dx 13 rfl rfl rfl rfl ?_
     first | refine Db 14 rfl (Bc rfl rfl 2 rfl) ?_ | refine Db 14 rfl (Bd rfl rfl 2 rfl) ?_
     refine Dx 15 rfl rfl rfl rfl ?_; refine A5 Af ?_; refine Ap (Ah (Se rfl ?_)); refine Az rfl .free rfl ?_; refine Ca rfl (Du hf.rep _) ?_; rintro _ J _ e0 ⟨ok, ck, rfl, hk1, rfl⟩
     have hf := hf.mono e0
     have hfr := hfr.mono e0
     have hto := hto.mono e0
     have hav := hav.mono e0
     have hle := hle.trans e0
     rw [hki] at hk1; rw [hki]
     have hnm := hnm.mono e0
     refine On rfl (Om rfl (Ab (Aq ?_))); refine Ee ?_; refine Se rfl (Oc rfl rfl rfl (Ab (Ah ?_))); refine B6 rfl Ay ?_; refine Ak (Ah (Aq (Se rfl ?_)))
     first | refine Bs rfl rfl _ rfl .free rfl ?_ | refine Bt rfl rfl _ rfl .free rfl ?_
     refine Er rfl .free rfl ?_; refine Oa rfl (Ab (Se rfl (Om rfl (Om rfl (Oa rfl (Oa rfl (Ab (Ah (Se rfl ?_))))))))); refine Az rfl .free rfl ?_; refine Om rfl ?_; refine Ca rfl (Ct hf.rep hok0 _ _) ?_; rintro _ J1 _ e1 ⟨o1, k1, rfl, hs1, rfl⟩
     have hf := hf.mono e1
     have hfr := hfr.mono e1
     have hto := hto.mono e1
     have hav := hav.mono e1
     have hle := hle.trans e1
     have hk1 := hk1.mono e1
     have hnm := hnm.mono e1
     refine Oa rfl (Ab (Se rfl (Om rfl (On rfl (Oc rfl rfl rfl (Ab ?_))))))
     first | refine K3 rfl D0 ?_ | refine K2 rfl D0 ?_ | refine B9 Ar ?_
     refine Al rfl (Om rfl (Om rfl ?_)); refine Ol rfl rfl ?_; intro b87; refine Gu ?_; intro ez
     have hf := hf.mono ez
     have hfr := hfr.mono ez
     have hto := hto.mono ez
     have hav := hav.mono ez
     have hle := hle.trans ez
     have hk1 := hk1.mono ez
     have hnm := hnm.mono ez
     refine Ca rfl (Cf (A9 (xs := [.slice of f.length cf, .slice o1 (List.length _) k1]) (ys := [])) hfr (hs1.mono ez) (Ex.binds_room0 Aa) _) ?_; rintro _ J3 _ e3 ⟨o3, k3, rfl, hs3, rfl⟩
     have hf := hf.mono e3
     have hfr := hfr.mono e3
     have hto := hto.mono e3
     have hav := hav.mono e3
     have hle := hle.trans e3
     have hk1 := hk1.mono e3
     have hnm := hnm.mono e3
     refine Om rfl (Om rfl ?_); refine Ol rfl rfl ?_; intro b91; refine Gu ?_; intro ey
     have hf := hf.mono ey
     have hfr := hfr.mono ey
     have hto := hto.mono ey
     have hav := hav.mono ey
     have hle := hle.trans ey
     have hk1 := hk1.mono ey
     have hnm := hnm.mono ey
     have hs3 := hs3.mono ey
     refine Ca rfl (Cf (m := [n1, n2]) (A9 (xs := [.slice ot t.length ct, .slice (some ⟨_, 0, none⟩) (List.length _) _]) (ys := [])) hto hnm (show t.length + 2 ≤ Bg by unfold Bg; omega) _) ?_; rintro _ J4 _ e4 ⟨o4, k4, rfl, hs4, rfl⟩
     have hf := hf.mono e4
     have hfr := hfr.mono e4
     have hto := hto.mono e4
     have hav := hav.mono e4
     have hle := hle.trans e4
     have hk1 := hk1.mono e4
     have hnm := hnm.mono e4
     have hs3 := hs3.mono e4
     refine Oa rfl (Oa rfl (Ab ?_)); refine C9 fun hlr => ?_
     have hpl := b.pl_hits av (f ++ [h1, z]) (t ++ [n1, n2]) (fr 120 av (fr 120 av k + 1) + 1)
     refine Hl 14 rfl rfl ?_; refine Da 0 rfl (Aj rfl) ?_; refine Dt 1 [13] rfl (Bo rfl) ?_; refine Da 2 rfl (Ai rfl) ?_; refine Da 3 rfl (Ai rfl) ?_; refine Da 4 rfl (Aj rfl) ?_; refine Dt 5 [13] rfl (Bo rfl) ?_; refine Da 6 rfl (Ai rfl) ?_
     first | refine Da 7 rfl (Bc rfl rfl _ rfl) ?_ | refine Da 7 rfl (Bd rfl rfl _ rfl) ?_
     refine Dt 8 [13] rfl (C5 rfl) ?_; refine Da 9 rfl (Ai rfl) ?_; refine Da 10 rfl (Ai rfl) ?_; refine Dc 11 rfl rfl (ihn (f := f ++ [h1, z]) (t := t ++ [n1, n2]) Aa (hf.as 5 b.tree Aa rfl) hok.2 hs3 hs4 D6 (hnf.add Pd) Cq hav bp _ _ Aa Aa _) ?_; rintro _ J2 _ e2 ⟨cs2, rfl, hr_0, rfl⟩; obtain ⟨o2, k2, _, rfl, -⟩ := hr_0.open
     have hlr := hlr.trans e2
     have hf := hf.mono e2
     have hfr := hfr.mono e2
     have hto := hto.mono e2
     have hav := hav.mono e2
     have hle := hle.trans e2
     have hk1 := hk1.mono e2
     have hnm := hnm.mono e2
     refine Hx ?_
     first | refine Da 12 rfl (Bc rfl rfl _ rfl) ?_ | refine Da 12 rfl (Bd rfl rfl _ rfl) ?_
     refine Dx 13 rfl rfl rfl rfl ?_; refine A5 Af ?_; refine Ap (Al rfl ?_); refine Or rfl rfl rfl ?_; refine Om rfl (Ab ?_); refine Bz ?_; refine Se rfl (Oc rfl rfl rfl (Ab (Ah ?_))); refine De rfl Ay ?_; refine Cc rfl ?_; refine Se rfl ?_; refine Az rfl .free rfl ?_; refine By rfl rfl rfl rfl .free ?_; refine Ab ?_; refine Cu (fun w h => h.f2) (Bu ?_); intro hz
     have hf := hf.mono hz
     refine Am (.c rfl .nil) ?_; subst hn1e hn2e
     exact ⟨_, _, hle.trans hz, fun w h => Mem.sub (L' := pn bp ov av cv _ _ :: L) A7 h, _, rfl, .mk' rfl (.cons (hf.as 0 (.node Dk []) Aa rfl) (.cons (.ofAtom hnl1) (.cons (.ofAtom hnl2) (.cons (hf.as 3 (s.tree) Aa rfl) (.cons (hf.as 4 (u.tree) Aa rfl) (.cons (hr_0.mono hz) (.nil))))))) (fun y hy => by cases hy; exact A9 (xs := [_, _, _, _, _, _, _, _, _, _, _, _])) Ae hcc Bf Bf, by rw [show g + (2 + b.nb) = g + 1 + 1 + b.nb by omega]; rfl⟩
    ·skip
     refine Qk 11 rfl rfl rfl .free rfl (Li n2 hnl2 _ _) ?_; rintro _ _ _ _ ⟨rfl, rfl, rfl⟩; refine Hx ?_
     first | refine Da 12 rfl (Bc rfl rfl 1 rfl) ?_ | refine Da 12 rfl (Bd rfl rfl 1 rfl) ?_
     refine Gd 3 13 Af ?_ ?_
     ·skip
      refine Ri 3 rfl rfl (Bo rfl) .free rfl (.inr Au) ?_; refine Dx 13 rfl rfl rfl rfl ?_
      first | refine Db 14 rfl (Bc rfl rfl 2 rfl) ?_ | refine Db 14 rfl (Bd rfl rfl 2 rfl) ?_
      refine Dx 15 rfl rfl rfl rfl ?_; refine A5 Af ?_; refine Ap (Ah (Se rfl ?_)); refine Az rfl .free rfl ?_; refine Ca rfl (Du hf.rep _) ?_; rintro _ J _ e0 ⟨ok, ck, rfl, hk1, rfl⟩
      have hf := hf.mono e0
      have hfr := hfr.mono e0
      have hto := hto.mono e0
      have hav := hav.mono e0
      have hle := hle.trans e0
      rw [hki] at hk1; rw [hki]
      have hnm := hnm.mono e0
      refine On rfl (Om rfl (Ab (Aq ?_))); refine Ee ?_; refine Se rfl (Oc rfl rfl rfl (Ab (Ah ?_))); refine B6 rfl Ay ?_; refine Ak (Ah (Aq (Se rfl ?_)))
      first | refine Bs rfl rfl _ rfl .free rfl ?_ | refine Bt rfl rfl _ rfl .free rfl ?_
      refine Er rfl .free rfl ?_; refine Oa rfl (Ab (Se rfl (Om rfl (Om rfl (Oa rfl (Oa rfl (Ab (Ah (Se rfl ?_))))))))); refine Az rfl .free rfl ?_; refine Om rfl ?_; refine Ca rfl (Ct hf.rep hok0 _ _) ?_; rintro _ J1 _ e1 ⟨o1, k1, rfl, hs1, rfl⟩
      have hf := hf.mono e1
      have hfr := hfr.mono e1
      have hto := hto.mono e1
      have hav := hav.mono e1
      have hle := hle.trans e1
      have hk1 := hk1.mono e1
      have hnm := hnm.mono e1
      refine Oa rfl (Ab (Se rfl (Om rfl (On rfl (Oc rfl rfl rfl (Ab ?_))))))
      first | refine K3 rfl D0 ?_ | refine K2 rfl D0 ?_ | refine B9 Ar ?_
      refine Al rfl (Om rfl (Om rfl ?_)); refine Ol rfl rfl ?_; intro b87; refine Gu ?_; intro ez
      have hf := hf.mono ez
      have hfr := hfr.mono ez
      have hto := hto.mono ez
      have hav := hav.mono ez
      have hle := hle.trans ez
      have hk1 := hk1.mono ez
      have hnm := hnm.mono ez
      refine Ca rfl (Cf (A9 (xs := [.slice of f.length cf, .slice o1 (List.length _) k1]) (ys := [])) hfr (hs1.mono ez) (Ex.binds_room0 Aa) _) ?_; rintro _ J3 _ e3 ⟨o3, k3, rfl, hs3, rfl⟩
      have hf := hf.mono e3
      have hfr := hfr.mono e3
      have hto := hto.mono e3
      have hav := hav.mono e3
      have hle := hle.trans e3
      have hk1 := hk1.mono e3
      have hnm := hnm.mono e3
      refine Om rfl (Om rfl ?_); refine Ol rfl rfl ?_; intro b91; refine Gu ?_; intro ey
      have hf := hf.mono ey
      have hfr := hfr.mono ey
      have hto := hto.mono ey
      have hav := hav.mono ey
      have hle := hle.trans ey
      have hk1 := hk1.mono ey
      have hnm := hnm.mono ey
      have hs3 := hs3.mono ey
      refine Ca rfl (Cf (m := [n1, n2]) (A9 (xs := [.slice ot t.length ct, .slice (some ⟨_, 0, none⟩) (List.length _) _]) (ys := [])) hto hnm (show t.length + 2 ≤ Bg by unfold Bg; omega) _) ?_; rintro _ J4 _ e4 ⟨o4, k4, rfl, hs4, rfl⟩
      have hf := hf.mono e4
      have hfr := hfr.mono e4
      have hto := hto.mono e4
      have hav := hav.mono e4
      have hle := hle.trans e4
      have hk1 := hk1.mono e4
      have hnm := hnm.mono e4
      have hs3 := hs3.mono e4
      refine Oa rfl (Oa rfl (Ab ?_)); refine C9 fun hlr => ?_
      have hpl := b.pl_hits av (f ++ [h1, z]) (t ++ [n1, n2]) (fr 120 av (fr 120 av k + 1) + 1)
      refine Hl 14 rfl rfl ?_; refine Da 0 rfl (Aj rfl) ?_; refine Dt 1 [13] rfl (Bo rfl) ?_; refine Da 2 rfl (Ai rfl) ?_; refine Da 3 rfl (Ai rfl) ?_; refine Da 4 rfl (Aj rfl) ?_; refine Dt 5 [13] rfl (Bo rfl) ?_; refine Da 6 rfl (Ai rfl) ?_
      first | refine Da 7 rfl (Bc rfl rfl _ rfl) ?_ | refine Da 7 rfl (Bd rfl rfl _ rfl) ?_
      refine Dt 8 [13] rfl (C5 rfl) ?_; refine Da 9 rfl (Ai rfl) ?_; refine Da 10 rfl (Ai rfl) ?_; refine Dc 11 rfl rfl (ihn (f := f ++ [h1, z]) (t := t ++ [n1, n2]) Aa (hf.as 5 b.tree Aa rfl) hok.2 hs3 hs4 D6 (hnf.add Pd) Cq hav bp _ _ Aa Aa _) ?_; rintro _ J2 _ e2 ⟨cs2, rfl, hr_0, rfl⟩; obtain ⟨o2, k2, _, rfl, -⟩ := hr_0.open
      have hlr := hlr.trans e2
      have hf := hf.mono e2
      have hfr := hfr.mono e2
      have hto := hto.mono e2
      have hav := hav.mono e2
      have hle := hle.trans e2
      have hk1 := hk1.mono e2
      have hnm := hnm.mono e2
      refine Hx ?_
      first | refine Da 12 rfl (Bc rfl rfl _ rfl) ?_ | refine Da 12 rfl (Bd rfl rfl _ rfl) ?_
      refine Dx 13 rfl rfl rfl rfl ?_; refine A5 Af ?_; refine Ap (Al rfl ?_); refine Or rfl rfl rfl ?_; refine Om rfl (Ab ?_); refine Bz ?_; refine Se rfl (Oc rfl rfl rfl (Ab (Ah ?_))); refine De rfl Ay ?_; refine Cc rfl ?_; refine Se rfl ?_; refine Az rfl .free rfl ?_; refine By rfl rfl rfl rfl .free ?_; refine Ab ?_; refine Cu (fun w h => h.f2) (Bu ?_); intro hz
      have hf := hf.mono hz
      refine Am (.c rfl .nil) ?_; subst hn1e hn2e
      exact ⟨_, _, hle.trans hz, fun w h => Mem.sub (L' := pn bp ov av cv _ _ :: L) A7 h, _, rfl, .mk' rfl (.cons (hf.as 0 (.node Dk []) Aa rfl) (.cons (.ofAtom hnl1) (.cons (.ofAtom hnl2) (.cons (hf.as 3 (s.tree) Aa rfl) (.cons (hf.as 4 (u.tree) Aa rfl) (.cons (hr_0.mono hz) (.nil))))))) (fun y hy => by cases hy; exact A9 (xs := [_, _, _, _, _, _, _, _, _, _, _, _])) Ae hcc Bf Bf, by rw [show g + (2 + b.nb) = g + 1 + 1 + b.nb by omega]; rfl⟩
     ·skip
      refine S4 13 rfl rfl rfl rfl rfl rfl .free (.inl Af) ?_; refine Sm 3 rfl Af rfl (Bo rfl) .free rfl (.inl Af) ?_
      first | refine Db 14 rfl (Bc rfl rfl 2 rfl) ?_ | refine Db 14 rfl (Bd rfl rfl 2 rfl) ?_
      refine Dx 15 rfl rfl rfl rfl ?_; refine A5 Af ?_; refine Ap (Ah (Se rfl ?_)); refine Az rfl .free rfl ?_; refine Ca rfl (Du hf.rep _) ?_; rintro _ J _ e0 ⟨ok, ck, rfl, hk1, rfl⟩
      have hf := hf.mono e0
      have hfr := hfr.mono e0
      have hto := hto.mono e0
      have hav := hav.mono e0
      have hle := hle.trans e0
      rw [hki] at hk1; rw [hki]
      have hnm := hnm.mono e0
      refine On rfl (Om rfl (Ab (Aq ?_))); refine Ee ?_; refine Se rfl (Oc rfl rfl rfl (Ab (Ah ?_))); refine B6 rfl Ay ?_; refine Ak (Ah (Aq (Se rfl ?_)))
      first | refine Bs rfl rfl _ rfl .free rfl ?_ | refine Bt rfl rfl _ rfl .free rfl ?_
      refine Er rfl .free rfl ?_; refine Oa rfl (Ab (Se rfl (Om rfl (Om rfl (Oa rfl (Oa rfl (Ab (Ah (Se rfl ?_))))))))); refine Az rfl .free rfl ?_; refine Om rfl ?_; refine Ca rfl (Ct hf.rep hok0 _ _) ?_; rintro _ J1 _ e1 ⟨o1, k1, rfl, hs1, rfl⟩
      have hf := hf.mono e1
      have hfr := hfr.mono e1
      have hto := hto.mono e1
      have hav := hav.mono e1
      have hle := hle.trans e1
      have hk1 := hk1.mono e1
      have hnm := hnm.mono e1
      refine Oa rfl (Ab (Se rfl (Om rfl (On rfl (Oc rfl rfl rfl (Ab ?_))))))
      first | refine K3 rfl D0 ?_ | refine K2 rfl D0 ?_ | refine B9 Ar ?_
      refine Al rfl (Om rfl (Om rfl ?_)); refine Ol rfl rfl ?_; intro b87; refine Gu ?_; intro ez
      have hf := hf.mono ez
      have hfr := hfr.mono ez
      have hto := hto.mono ez
      have hav := hav.mono ez
      have hle := hle.trans ez
      have hk1 := hk1.mono ez
      have hnm := hnm.mono ez
      refine Ca rfl (Cf (A9 (xs := [.slice of f.length cf, .slice o1 (List.length _) k1]) (ys := [])) hfr (hs1.mono ez) (Ex.binds_room0 Aa) _) ?_; rintro _ J3 _ e3 ⟨o3, k3, rfl, hs3, rfl⟩
      have hf := hf.mono e3
      have hfr := hfr.mono e3
      have hto := hto.mono e3
      have hav := hav.mono e3
      have hle := hle.trans e3
      have hk1 := hk1.mono e3
      have hnm := hnm.mono e3
      refine Om rfl (Om rfl ?_); refine Ol rfl rfl ?_; intro b91; refine Gu ?_; intro ey
      have hf := hf.mono ey
      have hfr := hfr.mono ey
      have hto := hto.mono ey
      have hav := hav.mono ey
      have hle := hle.trans ey
      have hk1 := hk1.mono ey
      have hnm := hnm.mono ey
      have hs3 := hs3.mono ey
      refine Ca rfl (Cf (m := [n1, n2]) (A9 (xs := [.slice ot t.length ct, .slice (some ⟨_, 0, none⟩) (List.length _) _]) (ys := [])) hto hnm (show t.length + 2 ≤ Bg by unfold Bg; omega) _) ?_; rintro _ J4 _ e4 ⟨o4, k4, rfl, hs4, rfl⟩
      have hf := hf.mono e4
      have hfr := hfr.mono e4
      have hto := hto.mono e4
      have hav := hav.mono e4
      have hle := hle.trans e4
      have hk1 := hk1.mono e4
      have hnm := hnm.mono e4
      have hs3 := hs3.mono e4
      refine Oa rfl (Oa rfl (Ab ?_)); refine C9 fun hlr => ?_
      have hpl := b.pl_hits av (f ++ [h1, z]) (t ++ [n1, n2]) (fr 120 av (fr 120 av k + 1) + 1)
      refine Hl 14 rfl rfl ?_; refine Da 0 rfl (Aj rfl) ?_; refine Dt 1 [13] rfl (Bo rfl) ?_; refine Da 2 rfl (Ai rfl) ?_; refine Da 3 rfl (Ai rfl) ?_; refine Da 4 rfl (Aj rfl) ?_; refine Dt 5 [13] rfl (Bo rfl) ?_; refine Da 6 rfl (Ai rfl) ?_
      first | refine Da 7 rfl (Bc rfl rfl _ rfl) ?_ | refine Da 7 rfl (Bd rfl rfl _ rfl) ?_
      refine Dt 8 [13] rfl (C5 rfl) ?_; refine Da 9 rfl (Ai rfl) ?_; refine Da 10 rfl (Ai rfl) ?_; refine Dc 11 rfl rfl (ihn (f := f ++ [h1, z]) (t := t ++ [n1, n2]) Aa (hf.as 5 b.tree Aa rfl) hok.2 hs3 hs4 D6 (hnf.add Pd) Cq hav bp _ _ Aa Aa _) ?_; rintro _ J2 _ e2 ⟨cs2, rfl, hr_0, rfl⟩; obtain ⟨o2, k2, _, rfl, -⟩ := hr_0.open
      have hlr := hlr.trans e2
      have hf := hf.mono e2
      have hfr := hfr.mono e2
      have hto := hto.mono e2
      have hav := hav.mono e2
      have hle := hle.trans e2
      have hk1 := hk1.mono e2
      have hnm := hnm.mono e2
      refine Hx ?_
      first | refine Da 12 rfl (Bc rfl rfl _ rfl) ?_ | refine Da 12 rfl (Bd rfl rfl _ rfl) ?_
      refine Dx 13 rfl rfl rfl rfl ?_; refine A5 Af ?_; refine Ap (Al rfl ?_); refine Or rfl rfl rfl ?_; refine Om rfl (Ab ?_); refine Bz ?_; refine Se rfl (Oc rfl rfl rfl (Ab (Ah ?_))); refine De rfl Ay ?_; refine Cc rfl ?_; refine Se rfl ?_; refine Az rfl .free rfl ?_; refine By rfl rfl rfl rfl .free ?_; refine Ab ?_; refine Cu (fun w h => h.f2) (Bu ?_); intro hz
      have hf := hf.mono hz
      refine Am (.c rfl .nil) ?_; subst hn1e hn2e
      exact ⟨_, _, hle.trans hz, fun w h => Mem.sub (L' := pn bp ov av cv _ _ :: L) A7 h, _, rfl, .mk' rfl (.cons (hf.as 0 (.node Dk []) Aa rfl) (.cons (.ofAtom hnl1) (.cons (.ofAtom hnl2) (.cons (hf.as 3 (s.tree) Aa rfl) (.cons (hf.as 4 (u.tree) Aa rfl) (.cons (hr_0.mono hz) (.nil))))))) (fun y hy => by cases hy; exact A9 (xs := [_, _, _, _, _, _, _, _, _, _, _, _])) Ae hcc Bf Bf, by rw [show g + (2 + b.nb) = g + 1 + 1 + b.nb by omega]; rfl⟩
  ·skip
   have hlen : (Ex.un o a).tree.parts.length = 2 := rfl
   have hki := Nz o a
   have hhd : (Ex.un o a).tree.head = o.txt := rfl
   simp only [Ex.un.sizeOf_spec] at hlt
   simp only [Ex.ok, Bool.and_eq_true, decide_eq_true_eq] at hok
   simp only [Ex.nb] at hk hg ⊢
   simp only [Ex.size] at hfl
   obtain ⟨_, hrl⟩ : ∃ _ : True, RepL I (Ex.un o a).tree.parts _ := ⟨trivial, hcl⟩
   simp only [show (Ex.un o a).tree.parts = [.node o.txt [], a.tree] from rfl, D7, List.cons_append, List.nil_append] at hrl ⊢
   refine Cu (fun w h => h.f4) ?_; refine Al rfl (Oa rfl (Ab (Ah (Se rfl ?_)))); refine Az rfl .free rfl ?_; refine Ca rfl (Bl hf.rep _) ?_; rintro _ _ _ _ ⟨rfl, rfl, rfl⟩; refine Ab (Aq (Se rfl (Od rfl rfl rfl (Oa rfl (Ab ?_)))))
   first | refine Ez rfl Il ?_ | refine Ey rfl Il ?_ | refine A0 Ar ?_
   refine Se rfl (Od rfl rfl rfl (Oa rfl (Ab ?_)))
   first | refine Ez rfl Il ?_ | refine Ey rfl Il ?_ | refine A0 Ar ?_
   refine Ak (Ap (Ah (Se rfl ?_))); refine Az rfl .free rfl ?_; refine Ca rfl (Du hf.rep _) ?_; rintro _ J _ e0 ⟨ok, ck, rfl, hk1, rfl⟩
   have hf := hf.mono e0
   have hfr := hfr.mono e0
   have hto := hto.mono e0
   have hav := hav.mono e0
   have hle := hle.trans e0
   rw [hki] at hk1; rw [hki]; refine On rfl (Om rfl (Ab (Aq ?_))); refine Ee ?_; refine Se rfl (Oc rfl rfl rfl (Ab (Ah ?_))); refine B6 rfl Ay ?_; refine Ak (Ah (Aq (Se rfl ?_)))
   first | refine Bs rfl rfl _ rfl .free rfl ?_ | refine Bt rfl rfl _ rfl .free rfl ?_
   refine Er rfl .free rfl ?_; refine Oa rfl (Ab (Se rfl (Om rfl (Om rfl (Oa rfl (Oa rfl (Ab (Ah (Se rfl ?_))))))))); refine Az rfl .free rfl ?_; refine Om rfl ?_; refine Ca rfl (Ct hf.rep hok0 _ _) ?_; rintro _ J1 _ e1 ⟨o1, k1, rfl, hs1, rfl⟩
   have hf := hf.mono e1
   have hfr := hfr.mono e1
   have hto := hto.mono e1
   have hav := hav.mono e1
   have hle := hle.trans e1
   have hk1 := hk1.mono e1
   refine Oa rfl (Ab (Se rfl (Om rfl (On rfl (Oc rfl rfl rfl (Ab ?_))))))
   first | refine Ez rfl D0 ?_ | refine Ey rfl D0 ?_ | refine A0 Ar ?_
   refine Ak ?_; refine C9 fun hlr => ?_
   have hpl := a.pl_hits av (f) (t) k
   refine Hl 14 rfl rfl ?_; refine Da 0 rfl (Aj rfl) ?_; refine Dt 1 [13] rfl (Bo rfl) ?_; refine Da 2 rfl (Ai rfl) ?_; refine Da 3 rfl (Ai rfl) ?_; refine Da 4 rfl (Aj rfl) ?_; refine Dt 5 [13] rfl (Bo rfl) ?_; refine Da 6 rfl (Ai rfl) ?_
   first | refine Da 7 rfl (Bc rfl rfl _ rfl) ?_ | refine Da 7 rfl (Bd rfl rfl _ rfl) ?_
   refine Dt 8 [13] rfl (C5 rfl) ?_; refine Da 9 rfl (Ai rfl) ?_; refine Da 10 rfl (Ai rfl) ?_; refine Dc 11 rfl rfl (ihn (f := f) (t := t) Aa (hf.as 1 a.tree Aa rfl) hok hfr hto D6 hnf Cq hav bp _ _ Aa Aa _) ?_; rintro _ J2 _ e2 ⟨cs2, rfl, hr_0, rfl⟩; obtain ⟨o2, k2, _, rfl, -⟩ := hr_0.open
   have hlr := hlr.trans e2
   have hf := hf.mono e2
   have hfr := hfr.mono e2
   have hto := hto.mono e2
   have hav := hav.mono e2
   have hle := hle.trans e2
   have hk1 := hk1.mono e2
   refine Hx ?_
   first | refine Da 12 rfl (Bc rfl rfl _ rfl) ?_ | refine Da 12 rfl (Bd rfl rfl _ rfl) ?_
   refine Dx 13 rfl rfl rfl rfl ?_; refine A5 Af ?_; refine Ap (Al rfl ?_); refine Or rfl rfl rfl ?_; refine Om rfl (Ab ?_); refine Bz ?_; refine Se rfl (Oc rfl rfl rfl (Ab (Ah ?_))); refine De rfl Ay ?_; refine Cc rfl ?_; refine Se rfl ?_; refine Az rfl .free rfl ?_; refine By rfl rfl rfl rfl .free ?_; refine Ab ?_; refine Cu (fun w h => h.f2) (Bu ?_); intro hz
   have hf := hf.mono hz
   refine Am (.c rfl .nil) ?_
   exact ⟨_, _, hle.trans hz, fun w h => Mem.sub (L' := pn bp ov av cv _ _ :: L) A7 h, _, rfl, .mk' rfl (.cons (hf.as 0 (.node o.txt []) Aa rfl) (.cons (hr_0.mono hz) (.nil))) (fun y hy => by cases hy; exact A9 (xs := [_, _, _, _])) Ae hcc Bf Bf, by first | rfl | (simp only [Nat.add_assoc]; rfl)⟩
theorem V6 {I : Heap} {e : Ex} {cs : List Value} (h : Rep I e.tree cs) (hfine : e.fine = true) (L : Bj) : Fun Tryz.prog 48 [.agg cs.toArray] I L (fun v I' L' => ∃ ds, v = .tuple #[.agg (List.toArray ds), .bool true] ∧ Rep I' e.plain.tree ds ∧ L = L') := by
 obtain ⟨oa, c, oaf, cf, rfl, hf⟩ := h.at'
 have hpf := G5 hfine
 have hf2 := hfine
 simp only [Ex.fine, Bool.and_eq_true, decide_eq_true_eq, Tree.fits] at hf2
 have hf3 := hpf
 simp only [Ex.fine, Bool.and_eq_true, decide_eq_true_eq, Tree.fits] at hf3
 have hroom := O6 hf2.1.2
 refine Ao Ae ?_; refine Se rfl ?_; refine Cm rfl rfl .free rfl ?_; intro b1; refine A1 .free rfl ?_; intro b2; refine Oa rfl (Ab (Se rfl ?_)); refine Az rfl .free rfl ?_; refine Ca rfl (Lz hf.rep hf2.1.1 Aa _) ?_; rintro _ J1 _ e1 ⟨ov, cv, rfl, hav, rfl⟩
 have hf := hf.mono e1
 refine Cd rfl rfl rfl .free rfl ?_; refine Cm rfl rfl .free rfl ?_; intro b9; refine Oa rfl (Ab (Se rfl (Om rfl ?_))); refine Az rfl .free rfl ?_; refine C4 (L' := pn b9 ov e.free cv 0 0 :: _) (fun w h => h) ?_; refine Ca rfl (Sq _ (Nat.lt_succ_self _) hf.rep hf2.1.1 (P3 _) (P3 _) rfl (fun s hs => by cases hs) Dr hav b9 0 0 Aa Aa _) ?_; rintro _ J2 _ e2 ⟨ds, rfl, hr, rfl⟩
 have hr : Rep J2 e.plain.tree ds := hr
 obtain ⟨od, cd, _, rfl, -⟩ := hr.open
 have hle := e1.trans e2
 unfold pn
 refine A1 .free rfl ?_; intro b5; refine By rfl rfl rfl rfl .free ?_; refine Ab (Ah ?_); refine Fh 12 rfl rfl ?_; refine Dt 0 [10] rfl (Ea rfl) ?_; refine Da 1 rfl (Ai rfl) ?_; refine Da 2 rfl (Cb rfl) ?_
 first | refine Da 3 rfl (Aj rfl) ?_ | refine Da 3 rfl (A4 rfl) ?_
 refine Dt 4 [5, 6, 8, 10] rfl (P8 rfl) ?_; refine Da 5 rfl (Le rfl rfl rfl) ?_; refine Da 6 rfl (Ai rfl) ?_
 apply Sk 19 22 rfl
 ·intro g3_7 hk
  try simp only [nb] at g3_7
  refine Hk 7 [8, 10] rfl Af rfl Au (Ea rfl) (.met rfl rfl) rfl ?_; refine Lf 8 rfl Af rfl rfl (.met rfl rfl) rfl (Ac5 hr hf3.1.1 Aa _) ?_; rintro _ _ _ _ ⟨rfl, rfl, rfl⟩; refine Hx ?_; refine Da 9 rfl (Ft rfl rfl) ?_
  exact Iq 2 rfl rfl hk
 ·intro _ hk; refine Ds 7 rfl rfl rfl ?_; refine Ds 8 rfl rfl rfl ?_; refine Da 9 rfl (Fa rfl rfl) ?_
  exact Iq 2 rfl rfl hk
 refine Dx 10 rfl rfl rfl rfl ?_; refine Db 11 rfl (Bk rfl) ?_; refine A5 Af ?_; refine Am (.c rfl (.tmp rfl .nil)) ?_; refine ⟨J2, L, hle, Cl, _, ?_, hr, rfl⟩; rw [hpf]; simp [C2]; omega
def NT (bp b bq : Nat) (l : List As) : Bj := [(bp, .cells [.pointer (some ⟨b, 0, none⟩)].toArray 136 (0, 0)), nz b bq 0 0, (bq, G3 l)]
theorem Rt (bp b bq : Nat) (l seen : List As) (s : As) (I : Heap) (L : Bj) (hx : l = C8 [] seen) : Fun Tryz.prog 121 [.string (str s), .pointer (some ⟨bp, 0, none⟩)] I (NT bp b bq l ++ L) (fun v I' L' => v = .tuple #[] ∧ ∃ y, y = C8 [] (seen ++ [s]) ∧ L' = NT bp b bq y ++ L) := by
 unfold NT nz
 simp only [List.cons_append, List.nil_append]
 refine Ao Ae ?_; refine Al rfl ?_; refine Cp rfl (El (cs := [.pointer (some ⟨b, 0, none⟩)]) m0 Ac Ac) .free rfl ?_; refine Aw rfl .free rfl ?_
 first | refine Oh rfl ?_ | refine Oj rfl ?_
 refine Cp rfl (El (cs := [.map (some bq), .int .i64 (0 : Nat), .int .i64 (0 : Nat)]) m1 Ac Ac) .free rfl ?_; refine Om rfl ?_; refine Ad8 rfl rfl rfl u2 .free ?_; refine Ab ?_; refine Ju .nil ?_
 exact ⟨I, _, .refl _, fun w h => h, rfl, Fj l s, by rw [Cs, ← hx]; rfl, rfl⟩
theorem Abv (bp b bq : Nat) : Aaa Tryz.prog 121 [.pointer (some ⟨bp, 0, none⟩)] (List As) (NT bp b bq) (fun l seen _ => l = C8 [] seen) :=
 ⟨fun x seen s I L hx _ _ => Rt bp b bq x seen s I L hx, fun _ _ _ _ _ h => h⟩
theorem Mem.w2 {I : Heap} {a b p : Nat × Obj} {L : Bj} {w : World} (h : Mem I (p :: a :: b :: L) w) : Mem I (a :: b :: p :: L) w := h.perm (List.perm_append_comm_assoc [p] [a, b] L)
theorem Ua {I : Heap} (ht : Tab I) {e : Ex} {cs : List Value} (h : Rep I e.tree cs) (hfine : e.fine = true) (L : Bj) : Fun Tryz.prog 70 [.agg cs.toArray] I L (fun v I' L' => ∃ ds, v = .tuple #[.agg (List.toArray ds), .bool e.normal.fine] ∧ Rep I' e.normal.tree ds ∧ L = L') := by
 obtain ⟨oa, c, oaf, cf, rfl, hf⟩ := h.at'
 have hpf := G5 hfine
 have hf3 := hpf
 simp only [Ex.fine, Bool.and_eq_true, decide_eq_true_eq, Tree.fits] at hf3
 have hroom := N0 hfine
 have hps : e.plain.size ≤ 120 := hf3.1.2
 have hnok := N1 hfine
 have hnl := O3 hfine
 have hnn := Rk hfine
 refine Ao Ae ?_; refine Se rfl ?_; refine Cm rfl rfl .free rfl ?_; intro b1; refine A1 .free rfl ?_; intro b2; refine Oa rfl (Ab (Se rfl ?_)); refine Az rfl .free rfl ?_; refine Ca rfl (V6 hf.rep hfine _) ?_; rintro _ J1 _ e1 ⟨ds, rfl, hr, rfl⟩; obtain ⟨o1, k1, _, rfl, -⟩ := hr.open
 have ht := ht.mono e1
 refine Om rfl (Oe rfl rfl (Oe rfl rfl ?_)); refine A1 .free rfl ?_; intro b4; refine By rfl rfl rfl rfl .free ?_; refine Oa rfl (Ab (Ah (Se rfl (Om rfl ?_)))); refine Ei rfl .free rfl ?_; refine Ab ?_
 first | refine Sf rfl Ae ?_ | refine A0 Ar ?_
 refine Ak (Se rfl ?_); refine Abz .free rfl ?_; intro bq; refine Cd rfl rfl rfl .free rfl ?_; refine Cm rfl rfl .free rfl ?_; intro b18; refine A1 .free rfl ?_; intro b6; refine By rfl rfl rfl rfl .free ?_; refine Ab (Se rfl ?_); refine Az rfl .free rfl ?_; refine Te rfl rfl .free rfl ?_; refine C4 (L' := NT b6 b18 bq [] ++ _) (fun w h => h) ?_; refine Ca rfl (V4 (Abv b6 b18 bq) _ (Nat.lt_succ_self _) hr [] [] (by simp only [List.length_nil, Ex.tree_size]; omega) rfl _) ?_; rintro _ J2 _ e2 ⟨rfl, tk, htk, rfl⟩
 have ht := ht.mono e2
 have hr := hr.mono e2
 obtain rfl : tk = e.tk := htk
 simp only [NT, List.cons_append, List.nil_append]
 refine Ab (Se rfl ?_); refine Bv rfl .free rfl ?_; refine Az rfl .free rfl ?_; refine C4 (fun w h => Mem.w2 h) ?_; refine Ca rfl (Mo (Abs _) ht (Nat.lt_succ_self _) hr hf3.1.1 e.tk b18 bq 0 0 Aa Aa Aa _) ?_; rintro _ J3 _ e3 ⟨ms, rfl, hr3, rfl⟩
 have hr3 : Rep J3 e.normal.tree ms := hr3
 obtain ⟨o3, k3, _, rfl, -⟩ := hr3.open
 have hle := (e1.trans e2).trans e3
 rw [Nat.zero_add]
 have hge : (e.plain.mk e.tk 0).g = e.made.g := rfl
 rw [hge]
 unfold nz
 refine A1 .free rfl ?_; intro b7; refine By rfl rfl rfl rfl .free ?_; refine Ab (Ah ?_); refine Fh 12 rfl rfl ?_; refine Dt 0 [10] rfl (Ea rfl) ?_; refine Dt 1 [2, 3, 4, 5, 6, 8, 10] rfl (Bo rfl) ?_; refine Da 2 rfl (Cb rfl) ?_
 first | refine Da 3 rfl (Aj rfl) ?_ | refine Da 3 rfl (A4 rfl) ?_
 refine Dt 4 [5, 6, 8, 10] rfl (P8 rfl) ?_; refine Da 5 rfl (Le rfl rfl rfl) ?_; refine Da 6 rfl (Ai rfl) ?_
 apply Sk 31 34 rfl
 ·intro g7_7 hk
  try simp only [nb] at g7_7
  refine Hk 7 [8, 10] rfl Af rfl Au (Ea rfl) (.met rfl rfl) rfl ?_; refine Lf 8 rfl Af rfl rfl (.met rfl rfl) rfl (Ac5 hr3 hnok Aa _) ?_; rintro _ _ _ _ ⟨rfl, rfl, rfl⟩; refine Hx ?_; refine Da 9 rfl (Ft rfl rfl) ?_
  exact Iq 2 rfl rfl hk
 ·intro _ hk; refine Ds 7 rfl rfl rfl ?_; refine Ds 8 rfl rfl rfl ?_; refine Da 9 rfl (Fa rfl rfl) ?_
  exact Iq 2 rfl rfl hk
 refine Dx 10 rfl rfl rfl rfl ?_; refine Db 11 rfl (Bk rfl) ?_; refine A5 Af ?_; refine Am (.c rfl (.tmp rfl .nil)) ?_; refine ⟨J3, L, hle, Cl, _, ?_, hr3, rfl⟩
 cases hfn : e.normal.fine with
 | false => simp [C2, hfn]
 | true => have := (hnn hfn).1; simp [C2, hfn]; omega
theorem Zi (s : As) (hs : s.length ≤ Bg) {I : Heap} (ht : Tab I) (L : Bj) : Fun Tryz.prog 32 [.string (str s)] I L (EL (Tb s) L) := by
 refine Ao Ae ?_; refine Se rfl (Oa rfl (Oa rfl (Ab (Se rfl (Om rfl ?_))))); refine Ca rfl (Sr s hs _ _) ?_; rintro _ J _ hleJ ⟨t, cs, ok, rfl, hrep, rfl, hpf⟩; obtain ⟨oc, cc, _, rfl, -⟩ := hrep.open; refine Om rfl (Oe rfl rfl (Oe rfl rfl ?_)); refine A1 .free rfl ?_; intro b4; refine By rfl rfl rfl rfl .free ?_; refine Oa rfl (Ab (Ah (Se rfl (Om rfl ?_)))); refine Ei rfl .free rfl ?_; refine Ab ?_; refine A6 rfl ?_ ?_
 ·intro c0
  try simp only [nb] at c0
  refine Se rfl (Oa rfl (Oa rfl (Ab ?_))); refine Am (.tmp rfl (.tmp rfl .nil)) ?_
  exact ⟨J, L, hleJ, Cl, by rw [Qs (Aab hpf c0)]; rfl, rfl⟩
 intro c0
 try simp only [nb] at c0
 obtain ⟨e, he, rfl, hok, hlen, hfine, htxt⟩ := Ry hpf c0
 have hnf := Qt he
 have hnok := N1 hfine
 have hnl := O3 hfine
 refine Ak (Se rfl ?_); refine Az rfl .free rfl ?_; refine Ca rfl (Ua (ht.mono hleJ) hrep hfine _) ?_; rintro _ J2 _ e2 ⟨ds, rfl, hr, rfl⟩; obtain ⟨od, cd, _, rfl, -⟩ := hr.open
 have hle := hleJ.trans e2
 refine Om rfl (Oe rfl rfl (Oe rfl rfl ?_)); refine A1 .free rfl ?_; intro b6; refine By rfl rfl rfl rfl .free ?_; refine Oa rfl (Ab (Ah (Se rfl (Om rfl ?_)))); refine Ei rfl .free rfl ?_; refine Ab ?_; refine A6 rfl ?_ ?_
 ·intro c1
  try simp only [nb] at c1
  refine Se rfl (Oa rfl (Oa rfl (Ab ?_))); refine Am (.tmp rfl (.tmp rfl .nil)) ?_
  exact ⟨J2, L, hle, Cl, by rw [hnf, if_neg (by simpa using c1)]; rfl, rfl⟩
 intro c1
 try simp only [nb] at c1
 refine Ak (Se rfl ?_); refine Az rfl .free rfl ?_; refine Ca rfl (Xr hr (by rw [Tree.text_len]; unfold Bg; omega) _) ?_; rintro _ _ _ _ ⟨rfl, rfl, rfl⟩; refine Oa rfl (Oa rfl (Ab ?_)); refine Am (.tmp rfl (.tmp rfl .nil)) ?_
 exact ⟨J2, L, hle, Cl, by rw [hnf, if_pos (by simpa using c1)]; rfl, rfl⟩
theorem Mem.mv {I : Heap} {X A B L : Bj} {m : Nat × Obj} {w : World} (h : Mem I (X ++ (m :: (A ++ (B ++ L)))) w) : Mem I (m :: (A ++ (B ++ (X ++ L)))) w :=
 h.perm (List.perm_middle.trans (List.Perm.cons _ (((List.perm_append_comm_assoc X A (B ++ L)).trans (List.Perm.append_left A (List.perm_append_comm_assoc X B L))))))
theorem Mem.vm {I : Heap} {X A B L : Bj} {m : Nat × Obj} {w : World} (h : Mem I (m :: (A ++ (B ++ (X ++ L)))) w) : Mem I (X ++ (m :: (A ++ (B ++ L)))) w :=
 h.perm (List.perm_middle.trans (List.Perm.cons _ (((List.perm_append_comm_assoc X A (B ++ L)).trans (List.Perm.append_left A (List.perm_append_comm_assoc X B L)))))).symm
theorem Mem.u6 {I : Heap} {a b c d e g : Nat × Obj} {X L : Bj} {w : World} (h : Mem I (a :: b :: c :: d :: e :: g :: (X ++ L)) w) : Mem I (X ++ a :: b :: c :: d :: e :: g :: L) w := h.perm (List.perm_append_comm_assoc [a, b, c, d, e, g] X L)
theorem Mem.u7 {I : Heap} {a b c d e g k : Nat × Obj} {X L : Bj} {w : World} (h : Mem I (a :: b :: c :: d :: e :: g :: k :: (X ++ L)) w) : Mem I (X ++ a :: b :: c :: d :: e :: g :: k :: L) w := h.perm (List.perm_append_comm_assoc [a, b, c, d, e, g, k] X L)
theorem Mem.u8 {I : Heap} {a b c d e g k l : Nat × Obj} {X L : Bj} {w : World} (h : Mem I (a :: b :: c :: d :: e :: g :: k :: l :: (X ++ L)) w) : Mem I (X ++ a :: b :: c :: d :: e :: g :: k :: l :: L) w := h.perm (List.perm_append_comm_assoc [a, b, c, d, e, g, k, l] X L)
theorem Pf (b n : Nat) : (⟨b, 0, none⟩ : Addr).add n = ⟨b, n, none⟩ := by
 unfold Addr.add
 split
 ·subst_vars; rfl
 ·simp
theorem Hj {z m c : Nat} {xs : List Value} {B : Kg} (h : Dd z m c xs B) : ∃ a j, Bm m c B = .slice a m j := by
 cases B with
 | none => obtain ⟨_, rfl, rfl⟩ := h; exact ⟨_, _, rfl⟩
 | some p => exact ⟨_, _, rfl⟩
theorem Yr : ∀ {xs ys zs sp : List Value}, ys.length = zs.length → M1 xs.length ys (xs ++ (zs ++ sp)) = some (xs ++ (ys ++ sp))
 | x :: xs, ys, zs, sp, h => by simp only [List.cons_append, List.length_cons, M1, Yr (xs := xs) h]
 | [], ys, zs, sp, h => by
  show Pv ys (zs ++ sp) = _
  induction ys generalizing zs with
  | nil => obtain rfl : zs = [] := List.eq_nil_of_length_eq_zero h.symm; cases sp <;> rfl
  | cons y ys ih =>
   cases zs with
   | nil => cases h
   | cons z zs => simp only [List.cons_append, Pv, ih (zs := zs) (by simpa using h), List.nil_append]
theorem Iv {o : Nat} {xs ys zs sp : List Value} (ho : o = xs.length) (h : ys.length = zs.length) : M1 o ys (xs ++ (zs ++ sp)) = some (xs ++ (ys ++ sp)) := by subst ho; exact Yr h
theorem Mem.u9 {I : Heap} {a b c d e g k l m : Nat × Obj} {X L : Bj} {w : World} (h : Mem I (a :: b :: c :: d :: e :: g :: k :: l :: m :: (X ++ L)) w) : Mem I (X ++ a :: b :: c :: d :: e :: g :: k :: l :: m :: L) w := h.perm (List.perm_append_comm_assoc [a, b, c, d, e, g, k, l, m] X L)
theorem u7 {b : Nat} {o o' : Obj} {p p1 p2 p3 p4 p5 p6 : Nat × Obj} {L : Bj} : Upd b o' o (p :: p1 :: p2 :: p3 :: p4 :: p5 :: p6 :: (b, o) :: L) (p :: p1 :: p2 :: p3 :: p4 :: p5 :: p6 :: (b, o') :: L) := .there u6
theorem u8 {b : Nat} {o o' : Obj} {p p1 p2 p3 p4 p5 p6 p7 : Nat × Obj} {L : Bj} : Upd b o' o (p :: p1 :: p2 :: p3 :: p4 :: p5 :: p6 :: p7 :: (b, o) :: L) (p :: p1 :: p2 :: p3 :: p4 :: p5 :: p6 :: p7 :: (b, o') :: L) := .there u7
theorem u9 {b : Nat} {o o' : Obj} {p p1 p2 p3 p4 p5 p6 p7 p8 : Nat × Obj} {L : Bj} : Upd b o' o (p :: p1 :: p2 :: p3 :: p4 :: p5 :: p6 :: p7 :: p8 :: (b, o) :: L) (p :: p1 :: p2 :: p3 :: p4 :: p5 :: p6 :: p7 :: p8 :: (b, o') :: L) := .there u8
def P9 (b : Nat) (ot : Option Addr) (tk : List As) (ct n : Nat) (u v : Value) : Nat × Obj := (b, .cells [.slice ot tk.length ct, .int .i64 (n : Nat), u, v].toArray 145 (0, 0))
structure MS where
 ns : List As
 es : List Ex
 B1 : Kg
 c1 : Nat
 xs : List Value
 B2 : Kg
 c2 : Nat
structure MS.ok (I : Heap) (x : MS) : Prop where
 b1 : Dd 1 x.ns.length x.c1 (x.ns.map sv) x.B1
 b2 : Dd 2 x.es.length x.c2 x.xs x.B2
 rep : RepL I (x.es.map Ex.tree) x.xs
 each : ∀ s ∈ x.ns, s.length ≤ Bg
theorem MS.ok.mono {I I' : Heap} {x : MS} (hle : HLe I I') (h : x.ok I) : x.ok I' := ⟨h.b1, h.b2, h.rep.mono hle, h.each⟩
def MS.own (b : Nat) (ot : Option Addr) (tk : List As) (ct n : Nat) (x : MS) (L : Bj) : Bj :=
 P9 b ot tk ct n (Bm x.ns.length x.c1 x.B1) (Bm x.es.length x.c2 x.B2) :: (A2 9 (x.ns.map sv) x.B1 ++ (A2 68 x.xs x.B2 ++ L))
def MP (b : Nat) (ot : Option Addr) (tk : List As) (ct : Nat) (x : MS) (p : MK) (L : Bj) : Cv := fun v I' L' => ∃ cs y, v = .agg (List.toArray cs) ∧ Rep I' p.e.tree cs ∧ MS.ok I' y ∧ y.ns = x.ns ++ p.ns.map (·.1) ∧ y.es = x.es ++ p.ns.map (·.2) ∧ L' = y.own b ot tk ct p.n L
theorem Abj {I : Heap} {ot : Option Addr} {tk : List As} {ct : Nat} (hav : Strs I ot tk ct) (b n : Nat) (hn : n + tk.length ≤ 1000 + E3 121 tk n) (h3 : n ≤ 1000) {a1 a2 : Option Addr} {m1 k1 m2 k2 : Nat} (L : Bj) :
  Fun Tryz.prog 209 [.pointer (some ⟨b, 0, none⟩)] I (P9 b ot tk ct n (.slice a1 m1 k1) (.slice a2 m2 k2) :: L) (fun v I' L' => v = .string (str (nm 121 (fr 121 tk n))) ∧ I = I' ∧ L' = P9 b ot tk ct (fr 121 tk n + 1) (.slice a1 m1 k1) (.slice a2 m2 k2) :: L) := by
 obtain ⟨f1, f2, f3⟩ := Dv 121 tk n
 have f4 := Bp 121 tk (fr 121 tk n)
 refine Ao Ae ?_; refine Se rfl (Oa rfl (Ab (Aq ?_))); refine Dn (X := Nat) (fun m => fr 121 tk n + 1 - m) (fun m => [(0, .pointer (some ⟨b, 0, none⟩))]) (fun _ => I) (fun m => P9 b ot tk ct m (.slice a1 m1 k1) (.slice a2 m2 k2) :: L) (fun m => n ≤ m ∧ m ≤ fr 121 tk n ∧ ∀ j, n ≤ j → j < m → nm 121 j ∈ tk) n ⟨Nat.le_refl _, f2, fun j h1 h2 => absurd h2 Aa⟩ ⟨rfl, trivial⟩ (fun _ h => h) ?_; rintro m ⟨hm1, hm2, hm3⟩ ih
 unfold P9
 have hdl := R1 (n := m) Aa
 refine Aq (Se rfl (Om rfl ?_)); refine Aw rfl .free rfl ?_
 first | refine Oh rfl ?_ | refine Oj rfl ?_
 refine C1 rfl .free rfl ?_; refine Ca rfl (Wa _ m (Nat.lt_succ_self _) Aa _ _) ?_; rintro _ _ _ _ ⟨rfl, rfl, rfl⟩; refine Ok rfl rfl ?_; refine Oa rfl (Ab (Se rfl (Om rfl (Om rfl ?_)))); refine Aw rfl .free rfl ?_
 first | refine Oh rfl ?_ | refine Oj rfl ?_
 refine C1 rfl .free rfl ?_; refine Or rfl rfl rfl ?_; refine Aw rfl .free rfl ?_
 first | refine Oh rfl ?_ | refine Oj rfl ?_
 refine By rfl rfl rfl rfl .free ?_; refine Ab (Se rfl (Om rfl ?_)); refine Aw rfl .free rfl ?_
 first | refine Oh rfl ?_ | refine Oj rfl ?_
 refine C1 rfl .free rfl ?_; refine Om rfl ?_; refine Ca rfl (R4 (hav.rd _) ct (nm 121 m)) ?_; rintro _ _ _ _ ⟨rfl, rfl, rfl⟩; refine Ei rfl .free rfl ?_; refine Ab ?_; refine Si rfl ?_ ?_
 ·intro c0; refine Se rfl (Om rfl (Oa rfl (Ab (Am (.tmp rfl .nil) ?_))))
  have hfm : fr 121 tk n = m := R3 hm3 hm1 c0
  exact ⟨I, _, .refl _, fun _ h => h, by rw [hfm]; rfl, rfl, by rw [hfm]; rfl⟩
 intro c0; refine Ak (Ap ?_)
 have hne : m ≠ fr 121 tk n := fun e => f1 (e ▸ c0)
 refine Ed (E' := [(0, .pointer (some ⟨b, 0, none⟩))]) ⟨rfl, trivial⟩ (ih (m + 1) ⟨by omega, by omega, fun j h1 h2 => ?_⟩ Aa)
 by_cases hj : j = m
 ·subst hj; exact c0
 ·exact hm3 j h1 Aa
end Go.Proofs.YtmfagaajiakgoaaGreatDoor
