/- Types of expressions: they are small; their texts. No conditions. -/
import Derived.Test.YtfddjcmeejjhiaaGreatDoorG6

namespace Go.Proofs.YtfddjcmeejjhiaaGreatDoor
set_option maxRecDepth 100000
set_option linter.unusedVariables false
set_option linter.unusedSimpArgs false

def smallL (m : List Ty) : Prop := ∀ t ∈ m, t.size ≤ 16
theorem smallL.add {m : List Ty} {t : Ty} (h : smallL m) (ht : t.size ≤ 16) : smallL (m ++ [t]) := by
 intro u hu
 rcases List.mem_append.1 hu with h1 | h1
 ·exact h u h1
 ·obtain rfl := List.mem_singleton.1 h1; exact ht
/- Texts of types; the empty text for none. -/
def tyT : Option Ty → Ap
 | some t => t.tree.text
 | none => []
theorem Ty.text_len {t : Ty} (h : t.size ≤ 16) : t.tree.text.length ≤ 80 := by
 have := t.tree_small; rw [Tree.text_len]; omega
def Ac6 (o : Option Ty) : Prop := ∀ t, o = some t → t.size ≤ 16
def Ad6 (ks : List (Option Ty)) : Prop := ∀ o ∈ ks, Ac6 o
def Nm (h : Ap) : List (Option Ty) → Option Ty
 | [some a] => (U2.of h).bind fun o => o.ty a
 | [some a, some b] => (B5.of h).bind fun o => o.ty a b
 | [some a, some b, some c] => if a = .i ∧ b = c then some b else none
 | _ => none
theorem Ex.ty_bin (o : B5) (a b : Ex) (l : List Ap) (m : List Ty) : (Ex.bin o a b).ty l m = Nm o.txt [a.ty l m, b.ty l m] := by
 simp only [Ex.ty, Ex.chk]
 cases a.chk l m with
 | error x => cases b.chk l m <;> rfl
 | ok s =>
  cases b.chk l m with
  | error y => rfl
  | ok t =>
   simp only [Nm, B5.of_txt, Option.bind]
   cases o.ty s t <;> rfl
theorem Ex.ty_ite (a b c : Ex) (l : List Ap) (m : List Ty) : (Ex.ite a b c).ty l m = Nm F5 [a.ty l m, b.ty l m, c.ty l m] := by
 simp only [Ex.ty, Ex.chk]
 cases a.chk l m with
 | error x => cases b.chk l m <;> cases c.chk l m <;> rfl
 | ok s =>
  cases b.chk l m with
  | error y => cases c.chk l m <;> rfl
  | ok t =>
   cases c.chk l m with
   | error y => rfl
   | ok u =>
    simp only [Nm]
    by_cases h : s = .i ∧ t = u <;> simp [h]
theorem Ex.ty_un (o : U2) (a : Ex) (l : List Ap) (m : List Ty) : (Ex.un o a).ty l m = Nm o.txt [a.ty l m] := by
 simp only [Ex.ty, Ex.chk]
 cases a.chk l m with
 | error x => rfl
 | ok s =>
  simp only [Nm, U2.of_txt, Option.bind]
  cases o.ty s <;> rfl
theorem Ex.ty_lt (x : Ap) (a b : Ex) (l : List Ap) (m : List Ty) : (Ex.lt x a b).ty l m = match a.ty l m with | some s => b.ty (l ++ [x]) (m ++ [s]) | none => none := by
 simp only [Ex.ty, Ex.chk]
 cases a.chk l m <;> rfl
theorem Ex.ty_fn (f x : Ap) (s t : Ty) (b : Ex) (l : List Ap) (m : List Ty) : (Ex.fn f x s t b).ty l m = if (Ty.fn s t).size ≤ 16 ∧ b.ty (l ++ [f, x]) (m ++ [.fn s t, s]) = some t then some (.fn s t) else none := by
 simp only [Ex.ty, Ex.chk]
 by_cases h : (Ty.fn s t).size ≤ 16
 ·simp only [h, if_true, true_and]
  cases b.chk (l ++ [f, x]) (m ++ [.fn s t, s]) with
  | error x => simp
  | ok u => by_cases hu : u = t <;> simp [hu]
 ·simp [h]
theorem Ex.ty_name (s : Ap) (l : List Ap) (m : List Ty) : (Ex.name s).ty l m = Fp l m s := by
 simp only [Ex.ty, Ex.chk]
 cases Fp l m s <;> rfl
def Ko (s : Ap) : Option Ty := (H0 s).bind Tree.ty
theorem Xj {s : Ap} {t : Tree} (h : H0 s = some t) : ∃ a : Ty, Ko s = some a ∧ t = a.tree ∧ a.size ≤ 16 ∧ s = a.tree.text := by
 obtain ⟨a, rfl, h2, h3⟩ := Vm h
 exact ⟨a, by simp [Ko, h, a.tree_ty], rfl, h2, h3⟩
theorem Rz {s : Ap} {a : Ty} (h : Ko s = some a) : H0 s = some a.tree ∧ a.size ≤ 16 ∧ s = a.tree.text := by
 cases h1 : H0 s with
 | none => simp [Ko, h1] at h
 | some t =>
  obtain ⟨b, h2, rfl, h3, h4⟩ := Xj h1; rw [h] at h2; cases h2
  exact ⟨rfl, h3, h4⟩
def Adk (m : List Ap) : List Ty := m.map fun s => (Ko s).getD .i
def Aen (l m : List Ap) (s : Ap) : Option Ap := if Xf l m = true then (E5 s).bind fun e => (e.ty l (Adk m)).map fun t => t.tree.text else none
def Ex.sub : Ex → List Ex
 | .num _ => []
 | .name _ => []
 | .bin _ a b => [a, b]
 | .ite a b c => [a, b, c]
 | .lt _ a b => [a, b]
 | .fn _ _ _ _ b => [b]
 | .un _ a => [a]
/- Environments of parts. -/
def Ex.inL (e : Ex) (i : Nat) (l : List Ap) : List Ap := match e with
 | .lt x _ _ => if i = 3 then l ++ [x] else l
 | .fn f x _ _ _ => l ++ [f] ++ [x]
 | _ => l
def Ex.inM (e : Ex) (i : Nat) (s0 : Ty) (m : List Ty) : List Ty := match e with
 | .lt _ _ _ => if i = 3 then m ++ [s0] else m
 | .fn _ _ s t _ => m ++ [.fn s t] ++ [s]
 | _ => m
def Ex.raw (e : Ex) (ts : List Ty) (l : List Ap) (m : List Ty) : Option Ty := match e, ts with
 | .num _, _ => some .i
 | .name s, _ => Fp l m s
 | .bin .pair _ _, [a, b] => some (.pr a b)
 | .bin o _ _, [a, b] => o.ty a b
 | .ite _ _ _, [a, b, c] => if a = .i ∧ b = c then some b else none
 | .lt _ _ _, [_, b] => some b
 | .fn _ _ s t _, [b] => if b = t then some (.fn s t) else none
 | .un o _, [a] => o.ty a
 | _, _ => none
def Ex.fin (e : Ex) (r : Option Ty) : Except Ex Ty := match r with
 | some t => if t.size ≤ 16 then .ok t else .error e
 | none => .error e
def Ex.run (e : Ex) (l : List Ap) (m : List Ty) : List Ex → List Nat → List Ty → Except Ex (List Ty)
 | a :: more, k :: ks, ts => match a.chk (e.inL k l) (e.inM k (ts.getD 0 .i) m) with
  | .ok t => e.run l m more ks (ts ++ [t])
  | .error x => .error x
 | _, _, ts => .ok ts
def Ex.runs (e : Ex) (l : List Ap) (m : List Ty) : Except Ex (List Ty) := e.run l m e.sub (C9 e.tree) []
def Ex.funOk : Ex → Bool
 | .fn _ _ s t _ => decide ((Ty.fn s t).size ≤ 16)
 | _ => true
def Ex.binds : Ex → Nat → List Ap
 | .lt x _ _, i => if i = 3 then [x] else []
 | .fn f x _ _ _, i => if i = 5 then [f, x] else []
 | _, _ => []
theorem Ex.shapes (e : Ex) (h : e.bare = false) : (∃ o a b, e = .bin o a b) ∨ (∃ a b c, e = .ite a b c) ∨ (∃ x a b, e = .lt x a b) ∨ (∃ f x s t b, e = .fn f x s t b) ∨ (∃ o a, e = .un o a) := by
 cases e with
 | num s => cases h
 | name s => cases h
 | bin o a b => exact .inl ⟨o, a, b, rfl⟩
 | ite a b c => exact .inr (.inl ⟨a, b, c, rfl⟩)
 | lt x a b => exact .inr (.inr (.inl ⟨x, a, b, rfl⟩))
 | fn f x s t b => exact .inr (.inr (.inr (.inl ⟨f, x, s, t, b, rfl⟩)))
 | un o a => exact .inr (.inr (.inr (.inr ⟨o, a, rfl⟩)))
def lbl : List Ap → Bool := fun l => l.all fun s => decide (s.length ≤ Az)
theorem G2 {I : Heap} {b : Nat} {x : Ap} {e : TypeId} (hle : HLe I (I.set b (.cells [.string (str x)].toArray e (0, 0)))) (hx : x.length ≤ Az) : Strs (I.set b (.cells [.string (str x)].toArray e (0, 0))) (some ⟨b, 0, none⟩) [x] 1 :=
 ⟨fun y hy => by cases hy; exact Be (xs := [x].map sv) (ys := []), by simp, by simp, by simp [Az], by simpa using hx⟩
theorem N1 {I : Heap} {b : Nat} {x y : Ap} {e : TypeId} (hle : HLe I (I.set b (.cells [.string (str x), .string (str y)].toArray e (0, 0)))) (hx : x.length ≤ Az) (hy : y.length ≤ Az) : Strs (I.set b (.cells [.string (str x), .string (str y)].toArray e (0, 0))) (some ⟨b, 0, none⟩) [x, y] 2 :=
 ⟨fun z hz => by cases hz; exact Be (xs := [x, y].map sv) (ys := []), by simp, by simp, by simp [Az], by simpa using ⟨hx, hy⟩⟩
theorem Vh (I : Heap) : Strs I none [] 0 := ⟨by simp, by simp, by simp, by simp [Az], by simp⟩
theorem Ex.name_len {x : Ap} (h : Bv x = true) : x.length ≤ Az := by have := Fh h; unfold Az; omega

theorem Cu {I : Heap} {e : Ex} {cs : List Value} (h : Rep I e.tree cs) (hok : e.ok = true) (i : Nat) (L : Bh) : Fun Tryz.prog 131 [.agg cs.toArray, .int .i64 (i : Nat)] I L (SS (e.binds i) L) := by
 obtain ⟨oa, c, oaf, cf, rfl, hf⟩ := h.at'; refine Ag (by simp) ?_; refine Se rfl ?_; refine B7 rfl rfl .free rfl ?_; intro b2; refine Oa rfl (Aa (Ab (Aj (Se rfl ?_)))); refine A3 rfl .free rfl ?_; refine Ca rfl (Bk hf.rep _) ?_; rintro _ _ _ _ ⟨rfl, rfl, rfl⟩; refine Od rfl rfl rfl (Om rfl ?_)
 apply Ci 9 12 rfl
 ·intro g1_4 hk
  try simp only [nb] at g1_4
  refine Ow rfl ?_; refine Dh rfl rfl rfl (.met rfl rfl) rfl ?_; refine Ot rfl rfl ?_
  exact Ar 2 rfl rfl hk
 ·intro _ hk; refine A0 2 rfl ?_; refine Of rfl rfl ?_
  exact Ar 2 rfl rfl hk
 refine Oa rfl (Aa ?_); refine As rfl ?_ ?_
 ·intro c0
  try simp only [nb] at c0
  obtain ⟨x, a, b, rfl⟩ := Ex.of_let c0.1; obtain rfl : i = 3 := by omega
  simp only [Ex.ok, Bool.and_eq_true] at hok
  have hlen : (Ex.lt x a b).tree.parts.length = 4 := rfl
  have hx : ((Ex.lt x a b).tree.pt 1).atom.length ≤ Az := Ex.name_len hok.1.1
  refine Se rfl (Oh rfl ?_); refine A1 rfl .free rfl ?_
  first | refine A5 rfl rfl 1 rfl .free rfl ?_ | refine A6 rfl rfl 1 rfl .free rfl ?_
  refine Bd rfl .free rfl ?_; refine Fo rfl .free rfl ?_; refine Ol rfl rfl ?_; intro b18; refine Oa rfl (Aa ?_); refine Bi ?_; intro hz; refine Ad (.tmp rfl .nil) ?_
  exact ⟨_, L, hz, Bf, some ⟨b18, 0, none⟩, 1, rfl, G2 hz hx, rfl⟩
 intro c0
 try simp only [nb] at c0
 refine Se rfl ?_; refine A3 rfl .free rfl ?_; refine Ca rfl (Bk hf.rep _) ?_; rintro _ _ _ _ ⟨rfl, rfl, rfl⟩; refine Od rfl rfl rfl (Om rfl ?_)
 apply Ci 23 26 rfl
 ·intro g3_4 hk
  try simp only [nb] at g3_4
  refine Ow rfl ?_; refine Dh rfl rfl rfl (.met rfl rfl) rfl ?_; refine Ot rfl rfl ?_
  exact Ar 2 rfl rfl hk
 ·intro _ hk; refine A0 2 rfl ?_; refine Of rfl rfl ?_
  exact Ar 2 rfl rfl hk
 refine Oa rfl (Aa ?_); refine As rfl ?_ ?_
 ·intro c1
  try simp only [nb] at c1
  obtain ⟨f, x, s, t, b, rfl⟩ := Ex.of_fun c1.1; obtain rfl : i = 5 := by omega
  simp only [Ex.ok, Bool.and_eq_true] at hok
  have hlen : (Ex.fn f x s t b).tree.parts.length = 6 := rfl
  have hx1 : ((Ex.fn f x s t b).tree.pt 1).atom.length ≤ Az := Ex.name_len hok.1.1.1.1.1
  have hx2 : ((Ex.fn f x s t b).tree.pt 2).atom.length ≤ Az := Ex.name_len hok.1.1.1.1.2
  refine Ab ?_; refine Dp 12 rfl rfl ?_; refine Da 0 rfl (Ai rfl) ?_; refine Dt 1 [12] rfl (Br rfl) ?_
  first | refine Da 2 rfl (Bl rfl rfl 1 rfl) ?_ | refine Da 2 rfl (Bm rfl rfl 1 rfl) ?_
  refine Da 3 rfl (Bb rfl) ?_; refine Dt 4 [12] rfl (Jd rfl) ?_; refine Da 5 rfl (Ai rfl) ?_; refine Dt 6 [12] rfl (Br rfl) ?_
  first | refine Da 7 rfl (Bl rfl rfl 2 rfl) ?_ | refine Da 7 rfl (Bm rfl rfl 2 rfl) ?_
  refine Da 8 rfl (Bb rfl) ?_; refine Dt 9 [12] rfl (Jd rfl) ?_; refine Fg 10 rfl (by kernel_rfl) rfl rfl rfl (by rfl) (by rfl) (by rfl) (by decide) (by decide) (by rfl) .free rfl (.inr Ao) ?_; intro b37; refine Da 11 rfl (A2 rfl) ?_; refine At (by kernel_rfl) ?_; refine Bi ?_; intro hz; refine Ad (.tmp rfl .nil) ?_
  exact ⟨_, L, hz, Bf, some ⟨b37, 0, none⟩, 2, rfl, N1 hz hx1 hx2, rfl⟩
 intro c1
 try simp only [nb] at c1
 refine Ae (Ak (Se rfl (Oa rfl (Aa (Ad (.tmp rfl .nil) ?_)))))
 have hb : e.binds i = [] := by
  cases e with
  | lt x a b => exact if_neg fun hi => by rcases c0 with h | h; exact h rfl; omega
  | fn f x s t b => exact if_neg fun hi => by rcases c1 with h | h; exact h rfl; omega
  | _ => rfl
 exact ⟨I, L, .refl _, Bf, none, 0, by rw [hb]; rfl, by rw [hb]; exact Vh I, rfl⟩

theorem Ex.binds_le (e : Ex) (i : Nat) : (e.binds i).length ≤ 2 := by
 cases e with
 | lt x a b => simp only [Ex.binds]; split <;> simp
 | fn f x s t b => simp only [Ex.binds]; split <;> simp
 | _ => simp [Ex.binds]
theorem Ex.binds_room {bd : List Ap} {e : Ex} {i k : Nat} (h : bd.length + 2 + k ≤ 4294967296) : (bd ++ e.binds i).length + k ≤ Az := by
 have := e.binds_le i; rw [List.length_append]; unfold Az; omega
theorem Ex.binds_room0 {bd : List Ap} {e : Ex} {i : Nat} (h : bd.length + 2 ≤ 4294967296) : bd.length + (e.binds i).length ≤ Az := by
 have := e.binds_le i; unfold Az; omega
structure Y6 (P : Program) (kf : FuncId) (cap : List Value) (X : Type) (own : X → Bh) (R : X → List Ap → Heap → Prop) : Prop where
 tell : ∀ x seen s I L, R x seen I → Bv s = true → seen.length < 4294967296 → Fun P kf (.string (str s) :: cap) I (own x ++ L) (fun v I' L' => v = .tuple #[] ∧ ∃ y, R y (seen ++ [s]) I' ∧ L' = own y ++ L)
 mono : ∀ x seen I I', HLe I I' → R x seen I → R x seen I'
theorem Mem.w1 {I : Heap} {a : Nat × Obj} {X L : Bh} {w : World} (h : Mem I (X ++ a :: L) w) : Mem I (a :: (X ++ L)) w := h.perm List.perm_middle
theorem Ex.size_pos (e : Ex) : 1 ≤ e.size := by cases e <;> simp [Ex.size] <;> omega
theorem Ex.occ_len : ∀ (e : Ex) (bd : List Ap), (e.occ bd).length ≤ e.size
 | .num s, bd => Nat.zero_le _
 | .name s, bd => by simp only [Ex.occ]; split <;> simp [Ex.size]
 | .bin o a b, bd => by have := a.occ_len bd; have := b.occ_len bd; simp [Ex.occ, Ex.size]; omega
 | .ite a b c, bd => by have := a.occ_len bd; have := b.occ_len bd; have := c.occ_len bd; simp [Ex.occ, Ex.size]; omega
 | .lt x a b, bd => by have := a.occ_len bd; have := b.occ_len (bd ++ [x]); simp [Ex.occ, Ex.size]; omega
 | .fn f x s t b, bd => by have := b.occ_len (bd ++ [f, x]); simp [Ex.occ, Ex.size]; omega
 | .un o a, bd => by have := a.occ_len bd; simp [Ex.occ, Ex.size]; omega
theorem Ex.occ_room {seen bd : List Ap} {e : Ex} {k n : Nat} (h : seen.length + (e.size + k) ≤ n) : (seen ++ e.occ bd).length + k ≤ n := by
 have := e.occ_len bd; rw [List.length_append]; omega
theorem Ex.occ_room2 {seen bd bd' : List Ap} {e e' : Ex} {k n : Nat} (h : seen.length + (e.size + (e'.size + k)) ≤ n) : (seen ++ e.occ bd ++ e'.occ bd').length + k ≤ n := Ex.occ_room (Ex.occ_room h)
def TP {X : Type} (own : X → Bh) (R : X → List Ap → Heap → Prop) (seen : List Ap) (L : Bh) : Cs := fun v I' L' => v = .tuple #[] ∧ ∃ y, R y seen I' ∧ L' = own y ++ L
theorem Ud          {kf : FuncId} {cap : List Value} {X : Type} {own : X → Bh } {R : X → List Ap  → Heap → Prop} {c0 : Code} {m0' : Nat} {rs0 : List ResultVar} [hfi : Bo   Tryz.prog kf c0 m0' rs0] (T : Y6     Tryz.prog kf cap X own R) :
    ∀ (n : Nat) {I : Heap} {e : Ex} {cs : List Value} (_ : SizeOf.sizeOf e < n) (_ : Rep I e.tree cs) (_ : e.ok = true) {bd : List Ap } {ob : Option Addr} {cb : Nat} (_ : Strs I ob bd cb) (_ : bd.length + 2 * e.size ≤ Az  ) (x : X) (seen : List Ap ) (_ : seen.length + e.size ≤ 4294967296) (_ : R x seen I) (L : Bh ),
    Fun Tryz.prog 105 [.agg cs.toArray, .slice ob bd.length cb, .func (.func kf) #[] cap.toArray] I (own x ++ L) (TP own R (seen ++ e.occ bd) L) := by
  intro n
  induction n with
  | zero => intro I e cs h; omega
  | succ n ihn =>
    intro I e cs hlt h hok bd ob cb hbd hbl x seen hsl hx L
    obtain ⟨oa, c, oaf, cf, rfl, hf⟩ := h.at'
    have ha := hf.alen
    unfold Az   at hbl
    refine Ag        (by simp) ?_
    refine Se rfl ?_
    refine B7    rfl rfl .free rfl ?_
    intro b3
    refine Aa     (Ab    (Se rfl ?_))
    refine A3    rfl .free rfl ?_
    refine Ca rfl (Bu            hf.rep _) ?_
    rintro _ _ _ _ ⟨rfl, rfl, rfl⟩
    refine Aa     ?_
    refine As     rfl ?_ ?_
    · intro c0
      try simp only [nb] at c0
      have hb : e.bare = true := by rw [Ex.bare_parts]; exact c0
      refine Ab    (Se rfl (Oh rfl ?_))
      refine A1    rfl .free rfl ?_
      refine Ca rfl (Ip       e.tree.atom ha _ _) ?_
      rintro _ _ _ _ ⟨rfl, rfl, rfl⟩
      refine Om rfl ?_
      apply Ci    13 19 rfl
      · intro g2_4 hk
        try simp only [nb] at g2_4
        refine Ow rfl ?_
        refine Ax          rfl (.met rfl rfl) rfl ?_
        refine A1    rfl (.met rfl rfl) rfl ?_
        refine B9     rfl (.met rfl rfl) rfl (C0                (hbd.rd _) cb e.tree.atom) ?_
        rintro _ _ _ _ ⟨rfl, rfl, rfl⟩
        refine Cp    rfl (.met rfl rfl) rfl ?_
        refine Ot rfl rfl ?_
        exact Ar    5 rfl rfl hk
      · intro _ hk
        refine A0      5 rfl ?_
        refine Of rfl rfl ?_
        exact Ar    5 rfl rfl hk
      refine Aa     ?_
      refine As     rfl ?_ ?_
      · intro c1
        try simp only [nb] at c1
        have hnm := c1.1
        have hem : e = .name e.tree.atom := by
          cases e with
          | num s => have h1 : By    s = true := hok; have h2 := Fd           hnm; rw [show (Ex.num s).tree.atom = s from rfl, h1] at h2; cases h2
          | name s => rfl
          | _ => cases hb
        have hoc : e.occ bd = [e.tree.atom] := by
          have h2 := c1.2
          rw [hem]; simp only [Ex.occ]
          rw [if_neg (by simpa using h2)]
          rfl
        refine Af      rfl (Om rfl (Oh rfl ?_))
        refine A1    rfl .free rfl ?_
        refine D4    (fun w h => h.u1) ?_
        refine Ab0     rfl rfl .free rfl (T.tell x seen e.tree.atom _ _ hx hnm (by have := e.size_pos; omega)) ?_
        rintro _ J _ e1 ⟨rfl, y, hy, rfl⟩
        refine Aa     ?_
        refine Ad    .nil ?_
        first
          | exact ⟨J, _, e1, fun w h => h.w1.drop, rfl, y, by rw [hoc]; exact hy, rfl⟩
          | (have hoc : e.occ bd = [] := by
               cases e with
               | num s => rfl
               | name s =>
                 simp only [Ex.occ]
                 rw [if_pos]
                 rcases c1 with h | h
                 · rw [show (Ex.name s).tree.atom = s from rfl, show Bv     s = true from hok] at h; cases h
                 · exact h
               | _ => cases hb
             exact ⟨I, _, .refl _, fun w h => h.drop, rfl, x, by rw [hoc, List.append_nil]; exact hx, rfl⟩)
      intro c1
      try simp only [nb] at c1
      refine Ae     ?_
      refine Ad    .nil ?_
      first
        | exact ⟨J, _, e1, fun w h => h.w1.drop, rfl, y, by rw [hoc]; exact hy, rfl⟩
        | (have hoc : e.occ bd = [] := by
             cases e with
             | num s => rfl
             | name s =>
               simp only [Ex.occ]
               rw [if_pos]
               rcases c1 with h | h
               · rw [show (Ex.name s).tree.atom = s from rfl, show Bv     s = true from hok] at h; cases h
               · exact h
             | _ => cases hb
           exact ⟨I, _, .refl _, fun w h => h.drop, rfl, x, by rw [hoc, List.append_nil]; exact hx, rfl⟩)
    intro c0
    try simp only [nb] at c0
    have hb : e.bare = false := by rw [Ex.bare_parts]; exact c0
    have hsh := e.shapes hb
    refine Ae     (Ab    ?_)
    rcases hsh with ⟨o, a, b, rfl⟩ | ⟨a, b, d, rfl⟩ | ⟨z, a, b, rfl⟩ | ⟨g, z, s, t, b, rfl⟩ | ⟨o, a, rfl⟩
    · skip
      refine Af      rfl ?_
      refine A3    rfl .free rfl ?_
      refine Ca rfl (Ej          hf.rep _) ?_
      rintro _ J _ e0 ⟨ok, ck, rfl, hk, rfl⟩
      have hf := hf.mono e0
      have hbd := hbd.mono e0
      have hx := T.mono _ _ _ _ e0 hx
      have hle := e0
      have hok0 := hok
      simp only [Ex.ok, Bool.and_eq_true] at hok
      rw [Mq      ] at hk
      rw [Mq      ]
      have hlen : (Ex.bin o a b).tree.parts.length = 3 := rfl
      have hkl : [1, 2].length = 2 := rfl
      simp only [Ex.bin.sizeOf_spec] at hlt
      simp only [Ex.size] at hbl hsl
      refine On rfl (Om rfl (Aa     (Aj      ?_)))
      refine Dz     ?_
      refine Se rfl (Oc rfl rfl rfl (Aa     (Ab    ?_)))
      refine Cc      rfl (by first | rfl | decide | (simp; done) | omega) ?_
      refine Ae     (Ab    (Aj      (Se rfl ?_)))
      first | refine A5    rfl rfl _ rfl .free rfl ?_ | refine A6    rfl rfl _ rfl .free rfl ?_
      refine Ef    rfl .free rfl ?_
      refine Oa rfl (Aa     ?_)
      refine Sj  13 rfl rfl ?_
      refine Da 0 rfl (Ai          rfl) ?_
      refine Dt 1 [13] rfl (Br    rfl) ?_
      refine Da 2 rfl (Ah     rfl) ?_
      first | refine Da 3 rfl (Bl    rfl rfl _ rfl) ?_ | refine Da 3 rfl (Bm    rfl rfl _ rfl) ?_
      refine Dt 4 [13] rfl (Bq    rfl) ?_
      refine Da 5 rfl (Ah     rfl) ?_
      refine Dt 6 [13] rfl (Cx    rfl) ?_
      refine Da 7 rfl (Ah     rfl) ?_
      refine Da 11 rfl (Ah     rfl) ?_
      refine Dc 8 rfl rfl (Cu           hf.rep hok0 _ _) ?_
      rintro _ J1 _ e1 ⟨o1, k1, rfl, hs1, rfl⟩
      refine Hx ?_
      refine Fg     9 rfl (by kernel_rfl) rfl rfl rfl (by rfl) (by rfl) (by rfl) (by decide) (by decide) (by rfl) .free rfl (.inr Ao   ) ?_
      intro b40
      refine D1       ?_
      intro hz
      have e2 := e1.trans hz
      refine Dc 10 rfl rfl (D2              (Be        (xs := [.slice ob bd.length cb, .slice o1 (List.length _) k1]) (ys := [])) (hbd.mono e2) (hs1.mono hz) (Ex.binds_room0 (by omega)) _) ?_
      rintro _ J3 _ e3 ⟨o3, k3, rfl, hs3, rfl⟩
      have e4 := e2.trans e3
      have hf3 := hf.mono e4
      have hx3 := T.mono _ _ _ _ e4 hx
      refine Hx ?_
      refine C3    (fun w h => h.u1) ?_
      refine Dc 12 rfl rfl (ihn (by omega) (hf3.as 1 a.tree (by omega) rfl) hok.1 hs3 (Ex.binds_room (by omega)) _ _ (by omega) hx3 _) ?_
      rintro _ J4 _ e5 ⟨rfl, x, hx, rfl⟩
      have e6 := e4.trans e5
      refine Hx ?_
      refine C3    (fun w h => h.w1) ?_
      have hf := hf.mono e6
      have hbd := hbd.mono e6
      have hle := hle.trans e6
      have hk := hk.mono e6
      refine At     (by kernel_rfl) ?_
      refine Ak        (Af      rfl ?_)
      refine Or rfl rfl rfl ?_
      refine Om rfl (Aa     ?_)
      refine B0      ?_
      refine Se rfl (Oc rfl rfl rfl (Aa     (Ab    ?_)))
      refine Cc      rfl (by first | rfl | decide | (simp; done) | omega) ?_
      refine Ae     (Ab    (Aj      (Se rfl ?_)))
      first | refine A5    rfl rfl _ rfl .free rfl ?_ | refine A6    rfl rfl _ rfl .free rfl ?_
      refine Ef    rfl .free rfl ?_
      refine Oa rfl (Aa     ?_)
      refine Sj  13 rfl rfl ?_
      refine Da 0 rfl (Ai          rfl) ?_
      refine Dt 1 [13] rfl (Br    rfl) ?_
      refine Da 2 rfl (Ah     rfl) ?_
      first | refine Da 3 rfl (Bl    rfl rfl _ rfl) ?_ | refine Da 3 rfl (Bm    rfl rfl _ rfl) ?_
      refine Dt 4 [13] rfl (Bq    rfl) ?_
      refine Da 5 rfl (Ah     rfl) ?_
      refine Dt 6 [13] rfl (Cx    rfl) ?_
      refine Da 7 rfl (Ah     rfl) ?_
      refine Da 11 rfl (Ah     rfl) ?_
      refine Dc 8 rfl rfl (Cu           hf.rep hok0 _ _) ?_
      rintro _ J1 _ e1 ⟨o1, k1, rfl, hs1, rfl⟩
      refine Hx ?_
      refine Fg     9 rfl (by kernel_rfl) rfl rfl rfl (by rfl) (by rfl) (by rfl) (by decide) (by decide) (by rfl) .free rfl (.inr Ao   ) ?_
      intro b40
      refine D1       ?_
      intro hz
      have e2 := e1.trans hz
      refine Dc 10 rfl rfl (D2              (Be        (xs := [.slice ob bd.length cb, .slice o1 (List.length _) k1]) (ys := [])) (hbd.mono e2) (hs1.mono hz) (Ex.binds_room0 (by omega)) _) ?_
      rintro _ J3 _ e3 ⟨o3, k3, rfl, hs3, rfl⟩
      have e4 := e2.trans e3
      have hf3 := hf.mono e4
      have hx3 := T.mono _ _ _ _ e4 hx
      refine Hx ?_
      refine C3    (fun w h => h.u1) ?_
      refine Dc 12 rfl rfl (ihn (by omega) (hf3.as 2 b.tree (by omega) rfl) hok.2 hs3 (Ex.binds_room (by omega)) _ _ (Ex.occ_room (by omega)) hx3 _) ?_
      rintro _ J4 _ e5 ⟨rfl, x, hx, rfl⟩
      have e6 := e4.trans e5
      refine Hx ?_
      refine C3    (fun w h => h.w1) ?_
      have hf := hf.mono e6
      have hbd := hbd.mono e6
      have hle := hle.trans e6
      have hk := hk.mono e6
      refine At     (by kernel_rfl) ?_
      refine Ak        (Af      rfl ?_)
      refine Or rfl rfl rfl ?_
      refine Om rfl (Aa     ?_)
      refine B0      ?_
      refine Se rfl (Oc rfl rfl rfl (Aa     (Ab    ?_)))
      refine C5      rfl (by first | rfl | decide | (simp; done) | omega) ?_
      refine Bz     rfl ?_
      refine Jb    .nil ?_
      exact ⟨_, _, hle, fun w h => h.drop, rfl, x, by simpa [Ex.occ, Ex.binds] using hx, rfl⟩
    · skip
      refine Af      rfl ?_
      refine A3    rfl .free rfl ?_
      refine Ca rfl (Ej          hf.rep _) ?_
      rintro _ J _ e0 ⟨ok, ck, rfl, hk, rfl⟩
      have hf := hf.mono e0
      have hbd := hbd.mono e0
      have hx := T.mono _ _ _ _ e0 hx
      have hle := e0
      have hok0 := hok
      simp only [Ex.ok, Bool.and_eq_true] at hok
      rw [Mt      ] at hk
      rw [Mt      ]
      have hlen : (Ex.ite a b d).tree.parts.length = 4 := rfl
      have hkl : [1, 2, 3].length = 3 := rfl
      simp only [Ex.ite.sizeOf_spec] at hlt
      simp only [Ex.size] at hbl hsl
      refine On rfl (Om rfl (Aa     (Aj      ?_)))
      refine Dz     ?_
      refine Se rfl (Oc rfl rfl rfl (Aa     (Ab    ?_)))
      refine Cc      rfl (by first | rfl | decide | (simp; done) | omega) ?_
      refine Ae     (Ab    (Aj      (Se rfl ?_)))
      first | refine A5    rfl rfl _ rfl .free rfl ?_ | refine A6    rfl rfl _ rfl .free rfl ?_
      refine Ef    rfl .free rfl ?_
      refine Oa rfl (Aa     ?_)
      refine Sj  13 rfl rfl ?_
      refine Da 0 rfl (Ai          rfl) ?_
      refine Dt 1 [13] rfl (Br    rfl) ?_
      refine Da 2 rfl (Ah     rfl) ?_
      first | refine Da 3 rfl (Bl    rfl rfl _ rfl) ?_ | refine Da 3 rfl (Bm    rfl rfl _ rfl) ?_
      refine Dt 4 [13] rfl (Bq    rfl) ?_
      refine Da 5 rfl (Ah     rfl) ?_
      refine Dt 6 [13] rfl (Cx    rfl) ?_
      refine Da 7 rfl (Ah     rfl) ?_
      refine Da 11 rfl (Ah     rfl) ?_
      refine Dc 8 rfl rfl (Cu           hf.rep hok0 _ _) ?_
      rintro _ J1 _ e1 ⟨o1, k1, rfl, hs1, rfl⟩
      refine Hx ?_
      refine Fg     9 rfl (by kernel_rfl) rfl rfl rfl (by rfl) (by rfl) (by rfl) (by decide) (by decide) (by rfl) .free rfl (.inr Ao   ) ?_
      intro b40
      refine D1       ?_
      intro hz
      have e2 := e1.trans hz
      refine Dc 10 rfl rfl (D2              (Be        (xs := [.slice ob bd.length cb, .slice o1 (List.length _) k1]) (ys := [])) (hbd.mono e2) (hs1.mono hz) (Ex.binds_room0 (by omega)) _) ?_
      rintro _ J3 _ e3 ⟨o3, k3, rfl, hs3, rfl⟩
      have e4 := e2.trans e3
      have hf3 := hf.mono e4
      have hx3 := T.mono _ _ _ _ e4 hx
      refine Hx ?_
      refine C3    (fun w h => h.u1) ?_
      refine Dc 12 rfl rfl (ihn (by omega) (hf3.as 1 a.tree (by omega) rfl) hok.1.1 hs3 (Ex.binds_room (by omega)) _ _ (by omega) hx3 _) ?_
      rintro _ J4 _ e5 ⟨rfl, x, hx, rfl⟩
      have e6 := e4.trans e5
      refine Hx ?_
      refine C3    (fun w h => h.w1) ?_
      have hf := hf.mono e6
      have hbd := hbd.mono e6
      have hle := hle.trans e6
      have hk := hk.mono e6
      refine At     (by kernel_rfl) ?_
      refine Ak        (Af      rfl ?_)
      refine Or rfl rfl rfl ?_
      refine Om rfl (Aa     ?_)
      refine B0      ?_
      refine Se rfl (Oc rfl rfl rfl (Aa     (Ab    ?_)))
      refine Cc      rfl (by first | rfl | decide | (simp; done) | omega) ?_
      refine Ae     (Ab    (Aj      (Se rfl ?_)))
      first | refine A5    rfl rfl _ rfl .free rfl ?_ | refine A6    rfl rfl _ rfl .free rfl ?_
      refine Ef    rfl .free rfl ?_
      refine Oa rfl (Aa     ?_)
      refine Sj  13 rfl rfl ?_
      refine Da 0 rfl (Ai          rfl) ?_
      refine Dt 1 [13] rfl (Br    rfl) ?_
      refine Da 2 rfl (Ah     rfl) ?_
      first | refine Da 3 rfl (Bl    rfl rfl _ rfl) ?_ | refine Da 3 rfl (Bm    rfl rfl _ rfl) ?_
      refine Dt 4 [13] rfl (Bq    rfl) ?_
      refine Da 5 rfl (Ah     rfl) ?_
      refine Dt 6 [13] rfl (Cx    rfl) ?_
      refine Da 7 rfl (Ah     rfl) ?_
      refine Da 11 rfl (Ah     rfl) ?_
      refine Dc 8 rfl rfl (Cu           hf.rep hok0 _ _) ?_
      rintro _ J1 _ e1 ⟨o1, k1, rfl, hs1, rfl⟩
      refine Hx ?_
      refine Fg     9 rfl (by kernel_rfl) rfl rfl rfl (by rfl) (by rfl) (by rfl) (by decide) (by decide) (by rfl) .free rfl (.inr Ao   ) ?_
      intro b40
      refine D1       ?_
      intro hz
      have e2 := e1.trans hz
      refine Dc 10 rfl rfl (D2              (Be        (xs := [.slice ob bd.length cb, .slice o1 (List.length _) k1]) (ys := [])) (hbd.mono e2) (hs1.mono hz) (Ex.binds_room0 (by omega)) _) ?_
      rintro _ J3 _ e3 ⟨o3, k3, rfl, hs3, rfl⟩
      have e4 := e2.trans e3
      have hf3 := hf.mono e4
      have hx3 := T.mono _ _ _ _ e4 hx
      refine Hx ?_
      refine C3    (fun w h => h.u1) ?_
      refine Dc 12 rfl rfl (ihn (by omega) (hf3.as 2 b.tree (by omega) rfl) hok.1.2 hs3 (Ex.binds_room (by omega)) _ _ (Ex.occ_room (by omega)) hx3 _) ?_
      rintro _ J4 _ e5 ⟨rfl, x, hx, rfl⟩
      have e6 := e4.trans e5
      refine Hx ?_
      refine C3    (fun w h => h.w1) ?_
      have hf := hf.mono e6
      have hbd := hbd.mono e6
      have hle := hle.trans e6
      have hk := hk.mono e6
      refine At     (by kernel_rfl) ?_
      refine Ak        (Af      rfl ?_)
      refine Or rfl rfl rfl ?_
      refine Om rfl (Aa     ?_)
      refine B0      ?_
      refine Se rfl (Oc rfl rfl rfl (Aa     (Ab    ?_)))
      refine Cc      rfl (by first | rfl | decide | (simp; done) | omega) ?_
      refine Ae     (Ab    (Aj      (Se rfl ?_)))
      first | refine A5    rfl rfl _ rfl .free rfl ?_ | refine A6    rfl rfl _ rfl .free rfl ?_
      refine Ef    rfl .free rfl ?_
      refine Oa rfl (Aa     ?_)
      refine Sj  13 rfl rfl ?_
      refine Da 0 rfl (Ai          rfl) ?_
      refine Dt 1 [13] rfl (Br    rfl) ?_
      refine Da 2 rfl (Ah     rfl) ?_
      first | refine Da 3 rfl (Bl    rfl rfl _ rfl) ?_ | refine Da 3 rfl (Bm    rfl rfl _ rfl) ?_
      refine Dt 4 [13] rfl (Bq    rfl) ?_
      refine Da 5 rfl (Ah     rfl) ?_
      refine Dt 6 [13] rfl (Cx    rfl) ?_
      refine Da 7 rfl (Ah     rfl) ?_
      refine Da 11 rfl (Ah     rfl) ?_
      refine Dc 8 rfl rfl (Cu           hf.rep hok0 _ _) ?_
      rintro _ J1 _ e1 ⟨o1, k1, rfl, hs1, rfl⟩
      refine Hx ?_
      refine Fg     9 rfl (by kernel_rfl) rfl rfl rfl (by rfl) (by rfl) (by rfl) (by decide) (by decide) (by rfl) .free rfl (.inr Ao   ) ?_
      intro b40
      refine D1       ?_
      intro hz
      have e2 := e1.trans hz
      refine Dc 10 rfl rfl (D2              (Be        (xs := [.slice ob bd.length cb, .slice o1 (List.length _) k1]) (ys := [])) (hbd.mono e2) (hs1.mono hz) (Ex.binds_room0 (by omega)) _) ?_
      rintro _ J3 _ e3 ⟨o3, k3, rfl, hs3, rfl⟩
      have e4 := e2.trans e3
      have hf3 := hf.mono e4
      have hx3 := T.mono _ _ _ _ e4 hx
      refine Hx ?_
      refine C3    (fun w h => h.u1) ?_
      refine Dc 12 rfl rfl (ihn (by omega) (hf3.as 3 d.tree (by omega) rfl) hok.2 hs3 (Ex.binds_room (by omega)) _ _ (Ex.occ_room2 (by omega)) hx3 _) ?_
      rintro _ J4 _ e5 ⟨rfl, x, hx, rfl⟩
      have e6 := e4.trans e5
      refine Hx ?_
      refine C3    (fun w h => h.w1) ?_
      have hf := hf.mono e6
      have hbd := hbd.mono e6
      have hle := hle.trans e6
      have hk := hk.mono e6
      refine At     (by kernel_rfl) ?_
      refine Ak        (Af      rfl ?_)
      refine Or rfl rfl rfl ?_
      refine Om rfl (Aa     ?_)
      refine B0      ?_
      refine Se rfl (Oc rfl rfl rfl (Aa     (Ab    ?_)))
      refine C5      rfl (by first | rfl | decide | (simp; done) | omega) ?_
      refine Bz     rfl ?_
      refine Jb    .nil ?_
      exact ⟨_, _, hle, fun w h => h.drop, rfl, x, by simpa [Ex.occ, Ex.binds] using hx, rfl⟩
    · skip
      refine Af      rfl ?_
      refine A3    rfl .free rfl ?_
      refine Ca rfl (Ej          hf.rep _) ?_
      rintro _ J _ e0 ⟨ok, ck, rfl, hk, rfl⟩
      have hf := hf.mono e0
      have hbd := hbd.mono e0
      have hx := T.mono _ _ _ _ e0 hx
      have hle := e0
      have hok0 := hok
      simp only [Ex.ok, Bool.and_eq_true] at hok
      rw [Mu      ] at hk
      rw [Mu      ]
      have hlen : (Ex.lt z a b).tree.parts.length = 4 := rfl
      have hkl : [2, 3].length = 2 := rfl
      simp only [Ex.lt.sizeOf_spec] at hlt
      simp only [Ex.size] at hbl hsl
      refine On rfl (Om rfl (Aa     (Aj      ?_)))
      refine Dz     ?_
      refine Se rfl (Oc rfl rfl rfl (Aa     (Ab    ?_)))
      refine Cc      rfl (by first | rfl | decide | (simp; done) | omega) ?_
      refine Ae     (Ab    (Aj      (Se rfl ?_)))
      first | refine A5    rfl rfl _ rfl .free rfl ?_ | refine A6    rfl rfl _ rfl .free rfl ?_
      refine Ef    rfl .free rfl ?_
      refine Oa rfl (Aa     ?_)
      refine Sj  13 rfl rfl ?_
      refine Da 0 rfl (Ai          rfl) ?_
      refine Dt 1 [13] rfl (Br    rfl) ?_
      refine Da 2 rfl (Ah     rfl) ?_
      first | refine Da 3 rfl (Bl    rfl rfl _ rfl) ?_ | refine Da 3 rfl (Bm    rfl rfl _ rfl) ?_
      refine Dt 4 [13] rfl (Bq    rfl) ?_
      refine Da 5 rfl (Ah     rfl) ?_
      refine Dt 6 [13] rfl (Cx    rfl) ?_
      refine Da 7 rfl (Ah     rfl) ?_
      refine Da 11 rfl (Ah     rfl) ?_
      refine Dc 8 rfl rfl (Cu           hf.rep hok0 _ _) ?_
      rintro _ J1 _ e1 ⟨o1, k1, rfl, hs1, rfl⟩
      refine Hx ?_
      refine Fg     9 rfl (by kernel_rfl) rfl rfl rfl (by rfl) (by rfl) (by rfl) (by decide) (by decide) (by rfl) .free rfl (.inr Ao   ) ?_
      intro b40
      refine D1       ?_
      intro hz
      have e2 := e1.trans hz
      refine Dc 10 rfl rfl (D2              (Be        (xs := [.slice ob bd.length cb, .slice o1 (List.length _) k1]) (ys := [])) (hbd.mono e2) (hs1.mono hz) (Ex.binds_room0 (by omega)) _) ?_
      rintro _ J3 _ e3 ⟨o3, k3, rfl, hs3, rfl⟩
      have e4 := e2.trans e3
      have hf3 := hf.mono e4
      have hx3 := T.mono _ _ _ _ e4 hx
      refine Hx ?_
      refine C3    (fun w h => h.u1) ?_
      refine Dc 12 rfl rfl (ihn (by omega) (hf3.as 2 a.tree (by omega) rfl) hok.1.2 hs3 (Ex.binds_room (by omega)) _ _ (by omega) hx3 _) ?_
      rintro _ J4 _ e5 ⟨rfl, x, hx, rfl⟩
      have e6 := e4.trans e5
      refine Hx ?_
      refine C3    (fun w h => h.w1) ?_
      have hf := hf.mono e6
      have hbd := hbd.mono e6
      have hle := hle.trans e6
      have hk := hk.mono e6
      refine At     (by kernel_rfl) ?_
      refine Ak        (Af      rfl ?_)
      refine Or rfl rfl rfl ?_
      refine Om rfl (Aa     ?_)
      refine B0      ?_
      refine Se rfl (Oc rfl rfl rfl (Aa     (Ab    ?_)))
      refine Cc      rfl (by first | rfl | decide | (simp; done) | omega) ?_
      refine Ae     (Ab    (Aj      (Se rfl ?_)))
      first | refine A5    rfl rfl _ rfl .free rfl ?_ | refine A6    rfl rfl _ rfl .free rfl ?_
      refine Ef    rfl .free rfl ?_
      refine Oa rfl (Aa     ?_)
      refine Sj  13 rfl rfl ?_
      refine Da 0 rfl (Ai          rfl) ?_
      refine Dt 1 [13] rfl (Br    rfl) ?_
      refine Da 2 rfl (Ah     rfl) ?_
      first | refine Da 3 rfl (Bl    rfl rfl _ rfl) ?_ | refine Da 3 rfl (Bm    rfl rfl _ rfl) ?_
      refine Dt 4 [13] rfl (Bq    rfl) ?_
      refine Da 5 rfl (Ah     rfl) ?_
      refine Dt 6 [13] rfl (Cx    rfl) ?_
      refine Da 7 rfl (Ah     rfl) ?_
      refine Da 11 rfl (Ah     rfl) ?_
      refine Dc 8 rfl rfl (Cu           hf.rep hok0 _ _) ?_
      rintro _ J1 _ e1 ⟨o1, k1, rfl, hs1, rfl⟩
      refine Hx ?_
      refine Fg     9 rfl (by kernel_rfl) rfl rfl rfl (by rfl) (by rfl) (by rfl) (by decide) (by decide) (by rfl) .free rfl (.inr Ao   ) ?_
      intro b40
      refine D1       ?_
      intro hz
      have e2 := e1.trans hz
      refine Dc 10 rfl rfl (D2              (Be        (xs := [.slice ob bd.length cb, .slice o1 (List.length _) k1]) (ys := [])) (hbd.mono e2) (hs1.mono hz) (Ex.binds_room0 (by omega)) _) ?_
      rintro _ J3 _ e3 ⟨o3, k3, rfl, hs3, rfl⟩
      have e4 := e2.trans e3
      have hf3 := hf.mono e4
      have hx3 := T.mono _ _ _ _ e4 hx
      refine Hx ?_
      refine C3    (fun w h => h.u1) ?_
      refine Dc 12 rfl rfl (ihn (by omega) (hf3.as 3 b.tree (by omega) rfl) hok.2 hs3 (Ex.binds_room (by omega)) _ _ (Ex.occ_room (by omega)) hx3 _) ?_
      rintro _ J4 _ e5 ⟨rfl, x, hx, rfl⟩
      have e6 := e4.trans e5
      refine Hx ?_
      refine C3    (fun w h => h.w1) ?_
      have hf := hf.mono e6
      have hbd := hbd.mono e6
      have hle := hle.trans e6
      have hk := hk.mono e6
      refine At     (by kernel_rfl) ?_
      refine Ak        (Af      rfl ?_)
      refine Or rfl rfl rfl ?_
      refine Om rfl (Aa     ?_)
      refine B0      ?_
      refine Se rfl (Oc rfl rfl rfl (Aa     (Ab    ?_)))
      refine C5      rfl (by first | rfl | decide | (simp; done) | omega) ?_
      refine Bz     rfl ?_
      refine Jb    .nil ?_
      exact ⟨_, _, hle, fun w h => h.drop, rfl, x, by simpa [Ex.occ, Ex.binds] using hx, rfl⟩
    · skip
      refine Af      rfl ?_
      refine A3    rfl .free rfl ?_
      refine Ca rfl (Ej          hf.rep _) ?_
      rintro _ J _ e0 ⟨ok, ck, rfl, hk, rfl⟩
      have hf := hf.mono e0
      have hbd := hbd.mono e0
      have hx := T.mono _ _ _ _ e0 hx
      have hle := e0
      have hok0 := hok
      simp only [Ex.ok, Bool.and_eq_true] at hok
      rw [Mr     ] at hk
      rw [Mr     ]
      have hlen : (Ex.fn g z s t b).tree.parts.length = 6 := rfl
      have hkl : [5].length = 1 := rfl
      simp only [Ex.fn.sizeOf_spec] at hlt
      simp only [Ex.size] at hbl hsl
      refine On rfl (Om rfl (Aa     (Aj      ?_)))
      refine Dz     ?_
      refine Se rfl (Oc rfl rfl rfl (Aa     (Ab    ?_)))
      refine Cc      rfl (by first | rfl | decide | (simp; done) | omega) ?_
      refine Ae     (Ab    (Aj      (Se rfl ?_)))
      first | refine A5    rfl rfl _ rfl .free rfl ?_ | refine A6    rfl rfl _ rfl .free rfl ?_
      refine Ef    rfl .free rfl ?_
      refine Oa rfl (Aa     ?_)
      refine Sj  13 rfl rfl ?_
      refine Da 0 rfl (Ai          rfl) ?_
      refine Dt 1 [13] rfl (Br    rfl) ?_
      refine Da 2 rfl (Ah     rfl) ?_
      first | refine Da 3 rfl (Bl    rfl rfl _ rfl) ?_ | refine Da 3 rfl (Bm    rfl rfl _ rfl) ?_
      refine Dt 4 [13] rfl (Bq    rfl) ?_
      refine Da 5 rfl (Ah     rfl) ?_
      refine Dt 6 [13] rfl (Cx    rfl) ?_
      refine Da 7 rfl (Ah     rfl) ?_
      refine Da 11 rfl (Ah     rfl) ?_
      refine Dc 8 rfl rfl (Cu           hf.rep hok0 _ _) ?_
      rintro _ J1 _ e1 ⟨o1, k1, rfl, hs1, rfl⟩
      refine Hx ?_
      refine Fg     9 rfl (by kernel_rfl) rfl rfl rfl (by rfl) (by rfl) (by rfl) (by decide) (by decide) (by rfl) .free rfl (.inr Ao   ) ?_
      intro b40
      refine D1       ?_
      intro hz
      have e2 := e1.trans hz
      refine Dc 10 rfl rfl (D2              (Be        (xs := [.slice ob bd.length cb, .slice o1 (List.length _) k1]) (ys := [])) (hbd.mono e2) (hs1.mono hz) (Ex.binds_room0 (by omega)) _) ?_
      rintro _ J3 _ e3 ⟨o3, k3, rfl, hs3, rfl⟩
      have e4 := e2.trans e3
      have hf3 := hf.mono e4
      have hx3 := T.mono _ _ _ _ e4 hx
      refine Hx ?_
      refine C3    (fun w h => h.u1) ?_
      refine Dc 12 rfl rfl (ihn (by omega) (hf3.as 5 b.tree (by omega) rfl) hok.2 hs3 (Ex.binds_room (by omega)) _ _ (by omega) hx3 _) ?_
      rintro _ J4 _ e5 ⟨rfl, x, hx, rfl⟩
      have e6 := e4.trans e5
      refine Hx ?_
      refine C3    (fun w h => h.w1) ?_
      have hf := hf.mono e6
      have hbd := hbd.mono e6
      have hle := hle.trans e6
      have hk := hk.mono e6
      refine At     (by kernel_rfl) ?_
      refine Ak        (Af      rfl ?_)
      refine Or rfl rfl rfl ?_
      refine Om rfl (Aa     ?_)
      refine B0      ?_
      refine Se rfl (Oc rfl rfl rfl (Aa     (Ab    ?_)))
      refine C5      rfl (by first | rfl | decide | (simp; done) | omega) ?_
      refine Bz     rfl ?_
      refine Jb    .nil ?_
      exact ⟨_, _, hle, fun w h => h.drop, rfl, x, by simpa [Ex.occ, Ex.binds] using hx, rfl⟩
    · skip
      refine Af      rfl ?_
      refine A3    rfl .free rfl ?_
      refine Ca rfl (Ej          hf.rep _) ?_
      rintro _ J _ e0 ⟨ok, ck, rfl, hk, rfl⟩
      have hf := hf.mono e0
      have hbd := hbd.mono e0
      have hx := T.mono _ _ _ _ e0 hx
      have hle := e0
      have hok0 := hok
      simp only [Ex.ok, Bool.and_eq_true] at hok
      rw [Pd     ] at hk
      rw [Pd     ]
      have hlen : (Ex.un o a).tree.parts.length = 2 := rfl
      have hkl : [1].length = 1 := rfl
      simp only [Ex.un.sizeOf_spec] at hlt
      simp only [Ex.size] at hbl hsl
      refine On rfl (Om rfl (Aa     (Aj      ?_)))
      refine Dz     ?_
      refine Se rfl (Oc rfl rfl rfl (Aa     (Ab    ?_)))
      refine Cc      rfl (by first | rfl | decide | (simp; done) | omega) ?_
      refine Ae     (Ab    (Aj      (Se rfl ?_)))
      first | refine A5    rfl rfl _ rfl .free rfl ?_ | refine A6    rfl rfl _ rfl .free rfl ?_
      refine Ef    rfl .free rfl ?_
      refine Oa rfl (Aa     ?_)
      refine Sj  13 rfl rfl ?_
      refine Da 0 rfl (Ai          rfl) ?_
      refine Dt 1 [13] rfl (Br    rfl) ?_
      refine Da 2 rfl (Ah     rfl) ?_
      first | refine Da 3 rfl (Bl    rfl rfl _ rfl) ?_ | refine Da 3 rfl (Bm    rfl rfl _ rfl) ?_
      refine Dt 4 [13] rfl (Bq    rfl) ?_
      refine Da 5 rfl (Ah     rfl) ?_
      refine Dt 6 [13] rfl (Cx    rfl) ?_
      refine Da 7 rfl (Ah     rfl) ?_
      refine Da 11 rfl (Ah     rfl) ?_
      refine Dc 8 rfl rfl (Cu           hf.rep hok0 _ _) ?_
      rintro _ J1 _ e1 ⟨o1, k1, rfl, hs1, rfl⟩
      refine Hx ?_
      refine Fg     9 rfl (by kernel_rfl) rfl rfl rfl (by rfl) (by rfl) (by rfl) (by decide) (by decide) (by rfl) .free rfl (.inr Ao   ) ?_
      intro b40
      refine D1       ?_
      intro hz
      have e2 := e1.trans hz
      refine Dc 10 rfl rfl (D2              (Be        (xs := [.slice ob bd.length cb, .slice o1 (List.length _) k1]) (ys := [])) (hbd.mono e2) (hs1.mono hz) (Ex.binds_room0 (by omega)) _) ?_
      rintro _ J3 _ e3 ⟨o3, k3, rfl, hs3, rfl⟩
      have e4 := e2.trans e3
      have hf3 := hf.mono e4
      have hx3 := T.mono _ _ _ _ e4 hx
      refine Hx ?_
      refine C3    (fun w h => h.u1) ?_
      refine Dc 12 rfl rfl (ihn (by omega) (hf3.as 1 a.tree (by omega) rfl) hok hs3 (Ex.binds_room (by omega)) _ _ (by omega) hx3 _) ?_
      rintro _ J4 _ e5 ⟨rfl, x, hx, rfl⟩
      have e6 := e4.trans e5
      refine Hx ?_
      refine C3    (fun w h => h.w1) ?_
      have hf := hf.mono e6
      have hbd := hbd.mono e6
      have hle := hle.trans e6
      have hk := hk.mono e6
      refine At     (by kernel_rfl) ?_
      refine Ak        (Af      rfl ?_)
      refine Or rfl rfl rfl ?_
      refine Om rfl (Aa     ?_)
      refine B0      ?_
      refine Se rfl (Oc rfl rfl rfl (Aa     (Ab    ?_)))
      refine C5      rfl (by first | rfl | decide | (simp; done) | omega) ?_
      refine Bz     rfl ?_
      refine Jb    .nil ?_
      exact ⟨_, _, hle, fun w h => h.drop, rfl, x, by simpa [Ex.occ, Ex.binds] using hx, rfl⟩

structure FB where
 l : List Ap
 B : Ju
 c : Nat
def FB.own (bo : Nat) (x : FB) : Bh := (bo, .cells [B8 x.l.length x.c x.B].toArray 27 (0, 0)) :: Cf 9 (x.l.map sv) x.B
def FB.is (x : FB) (seen : List Ap) (I : Heap) : Prop := x.l = Df [] seen ∧ Er 1 x.l.length x.c (x.l.map sv) x.B ∧ ∀ s ∈ x.l, Bv s = true
theorem Gq (l m : List Ap) : (Df l m).length ≤ l.length + m.length := by
 induction m generalizing l with
 | nil => exact Nat.le_refl _
 | cons s m ih =>
  have h1 : (G4 l s).length ≤ l.length + 1 := by unfold G4; split <;> simp
  have h2 := ih (G4 l s)
  simp only [Df, List.foldl_cons, List.length_cons] at *
  omega
theorem Qv (bo : Nat) (x : FB) (seen : List Ap) (s : Ap) (I : Heap) (L : Bh) (hx : x.is seen I) (hs : Bv s = true) (hl : seen.length < 4294967296) :
  Fun Tryz.prog 106 [.string (str s), .pointer (some ⟨bo, 0, none⟩)] I (FB.own bo x ++ L) (fun v I' L' => v = .tuple #[] ∧ ∃ y : FB, y.is (seen ++ [s]) I' ∧ L' = FB.own bo y ++ L) := by
 obtain ⟨l, B, c⟩ := x; obtain ⟨hl1, hB, hn⟩ := hx
 simp only at hl1 hB hn
 have hll := Gq [] seen
 rw [← hl1] at hll
 simp only [List.length_nil, Nat.zero_add] at hll
 obtain ⟨oa, c', hbv, hrd⟩ := Ze (I := I) (L := L) (e := 9) hB rfl (by unfold Az; omega)
 have hcon : Fun Tryz.prog 107 [B8 l.length c B, .string (str s)] I ((bo, .cells [B8 l.length c B].toArray 27 (0, 0)) :: (Cf 9 (l.map sv) B ++ L)) (D0 (.bool (decide (s ∈ l))) I ((bo, .cells [B8 l.length c B].toArray 27 (0, 0)) :: (Cf 9 (l.map sv) B ++ L))) := by
  have := C0 (hrd.sub (L' := (bo, .cells [B8 l.length c B].toArray 27 (0, 0)) :: (Cf 9 (l.map sv) B ++ L)) fun w h => h.drop) c' s
  rwa [← hbv] at this
 unfold FB.own
 simp only [List.cons_append]
 refine Ag (by simp) ?_; refine Se rfl ?_; refine Bs rfl (Fj (cs := [B8 l.length c B]) m0 (by rfl) (by cases B <;> rfl)) .free rfl ?_; refine Om rfl ?_; refine B9 rfl .free rfl hcon ?_; rintro _ _ _ _ ⟨rfl, rfl, rfl⟩; refine Cp rfl .free rfl ?_; refine Aa ?_; refine As rfl ?_ ?_
 ·intro c0
  try simp only [nb] at c0
  have hadd : Df [] (seen ++ [s]) = l ++ [s] := by rw [Co, ← hl1]; simp [Df, G4, c0]
  refine Af rfl ?_; refine Bs rfl (Fj (cs := [B8 l.length c B]) m0 (by rfl) (by cases B <;> rfl)) .free rfl ?_; refine Om rfl ?_; refine Ol rfl rfl ?_; intro b9; refine Dw (B := B) (xs := l.map sv) (ys := [sv s]) (m := l.length) (c := c) (by intro kk; simp) (by rfl) rfl rfl hB (fun _ h => h.u2) (by rfl) (fun a ha => by cases ha; exact Ce (.head _) (by rfl)) (by simp) (by rfl) (by decide) (by decide) (by omega) (by decide) .free rfl ?_; intro bb sp c2 hB'; refine S9 rfl rfl rfl rfl (by rfl) u2 (by rfl) .free ?_; refine Aa ?_; refine Jb .nil ?_
  first
   | exact ⟨I, _, .refl _, fun w h => h, rfl, ⟨l, B, c⟩, ⟨hadd.symm, hB, hn⟩, rfl⟩
   | exact ⟨I, _, .refl _, fun w h => Mem.sub (L' := (bo, _) :: (bb, _) :: L) (by repeat (first | exact List.Sublist.refl _ | apply List.Sublist.cons_cons | apply List.Sublist.cons)) h.f2, rfl, ⟨l ++ [s], some (bb, sp), c2⟩, ⟨hadd.symm, by simpa using hB', by intro z hz; rcases List.mem_append.1 hz with h | h; exact hn z h; rw [List.mem_singleton.1 h]; exact hs⟩, by simp [Cf, B8]⟩
 intro c0
 try simp only [nb] at c0
 have hadd : Df [] (seen ++ [s]) = l := by rw [Co, ← hl1]; simp [Df, G4, c0]
 refine Ae ?_; refine Jb .nil ?_
 first
  | exact ⟨I, _, .refl _, fun w h => h, rfl, ⟨l, B, c⟩, ⟨hadd.symm, hB, hn⟩, rfl⟩
  | exact ⟨I, _, .refl _, fun w h => Mem.sub (L' := (bo, _) :: (bb, _) :: L) (by repeat (first | exact List.Sublist.refl _ | apply List.Sublist.cons_cons | apply List.Sublist.cons)) h.f2, rfl, ⟨l ++ [s], some (bb, sp), c2⟩, ⟨hadd.symm, by simpa using hB', by intro z hz; rcases List.mem_append.1 hz with h | h; exact hn z h; rw [List.mem_singleton.1 h]; exact hs⟩, by simp [Cf, B8]⟩
theorem Ni (bo : Nat) : Y6 Tryz.prog 106 [.pointer (some ⟨bo, 0, none⟩)] FB (FB.own bo) FB.is :=
 ⟨fun x seen s I L hx hs hl => Qv bo x seen s I L hx hs hl, fun x seen I I' _ h => h⟩
theorem P9 {l : List Ap} (h : ∀ s ∈ l, Bv s = true) : ∀ s ∈ l, s.length ≤ Az := fun s hs => Ex.name_len (h s hs)
theorem Ng {I : Heap} {e : Ex} {cs : List Value} (h : Rep I e.tree cs) (hok : e.ok = true) (hz : 2 * e.size ≤ 4294967295) (L : Bh) : Fun Tryz.prog 62 [.agg cs.toArray] I L (SS e.free L) := by
 obtain ⟨oa, c, oaf, cf, rfl, hf⟩ := h.at'
 have hT := fun bo => Ni bo
 refine Ag (by simp) ?_; refine Se rfl ?_; refine B7 rfl rfl .free rfl ?_; intro b1; refine Oa rfl (Aa (Se rfl ?_)); refine Aw .free rfl ?_; intro b3; refine Aa (Se rfl ?_); refine A3 rfl .free rfl ?_; refine Wn rfl rfl .free rfl ?_; refine D4 (L' := FB.own b3 ⟨[], none, 0⟩ ++ _) (fun w h => h) ?_; refine Ca rfl (Ud (hT b3) _ (Nat.lt_succ_self _) hf.rep hok (Vh I) (by unfold Az; simp; omega) ⟨[], none, 0⟩ [] (by simp; omega) ⟨rfl, ⟨rfl, rfl, rfl⟩, by simp⟩ _) ?_; rintro _ J _ e1 ⟨rfl, ⟨l, B, c2⟩, ⟨hl, hB, hn⟩, rfl⟩
 simp only at hl hB hn
 simp only [FB.own, List.cons_append]
 refine Aa (Se rfl ?_); refine Bs rfl (Fj (cs := [B8 l.length c2 B]) m0 (by rfl) (by cases B <;> rfl)) .free rfl ?_; refine Oa rfl (Aa ?_)
 have hll := Gq [] (e.occ [])
 have hol := e.occ_len []
 simp only [List.nil_append] at hl
 rw [← hl] at hll
 simp only [List.length_nil, Nat.zero_add] at hll
 refine Bg (fun w h => h.u1) (Ge hB rfl (by unfold Az; omega) (P9 hn) ?_); intro J2 oz cz ez hbv hst; refine Kp (t := 2) rfl hbv ?_; refine Ad (.tmp rfl .nil) ?_
 exact ⟨J2, L, e1.trans ez, fun w h => h.drop.drop, oz, cz, by rw [show e.free = l from hl.symm]; rfl, by rw [show e.free = l from hl.symm]; exact hst, rfl⟩
theorem E1 {P : Program} {f : FuncId} {n : Nat} {I₀ : Heap} {Q : Cs} {k : List Item} {ops : Array Oper} {S : World → Prop} {fuel : Nat} {listed : Array Bool} {E : Gm} {I : Heap} {L : Bh} {e : TypeId} {l : List Ap} {B : Ju} {m c : Nat}
  (hB : Er 1 m c (l.map sv) B) (hm : m = l.length) (hlen : l.length ≤ Az) (hs : ∀ s ∈ l, s.length ≤ Az)
  (h : ∀ I' oa c', HLe I I' → B8 m c B = .slice oa l.length c' → Strs I' oa l c' → Cq P f n I₀ Q ops S fuel listed k E I' L) : Cq P f n I₀ Q ops S fuel listed k E I (Cf e (l.map sv) B ++ L) := by
 cases B with
 | none =>
  obtain ⟨h1, h2, h3⟩ := hB; obtain rfl : l = [] := by simpa using h1
  exact h I .none 0 (.refl _) rfl ⟨by simp, by simp, by simp, hlen, hs⟩
 | some p =>
  obtain ⟨b, sp⟩ := p; refine D1 fun hle => h _ (some ⟨b, 0, .none⟩) c hle (by rw [← hm]; rfl) ⟨fun y hy => ?_, by simp, by have := hB.2.1; omega, hlen, hs⟩
  cases hy; exact Be
theorem Ex.binds_room1 {bd : List Ap} {e : Ex} {i : Nat} (h : bd.length + 2 ≤ 4294967296) : 0 + bd.length + (e.binds i).length ≤ 4294967296 := by
 have := e.binds_le i; omega
theorem Gx (I : Heap) (oa : Option Addr) : Strs I oa [] 0 := ⟨fun x _ => .inl rfl, fun _ => rfl, by simp, by simp [Az], by simp⟩
theorem Gc {I : Heap} {e : Ex} {cs : List Value} (h : Rep I e.tree cs) (hok : e.ok = true) (hb : e.bare = false) (i : Nat) (hi : i ∈ C9 e.tree) (L : Bh) : Fun Tryz.prog 151 [.agg cs.toArray, .int .i64 (i : Nat)] I L (SS (e.binds i) L) := by
 obtain ⟨oa, c, oaf, cf, rfl, hf⟩ := h.at'
 have hg := (Ex.tree_good hok).1
 have h0 : 0 < e.tree.parts.length := by
  rw [Ex.bare_parts] at hb
  have : e.tree.parts ≠ [] := by intro hh; rw [hh] at hb; cases hb
  exact List.length_pos_iff.2 this
 have hhd := Kc h0
 refine Ag (by simp) ?_; refine Se rfl ?_; refine B7 rfl rfl .free rfl ?_; intro b2; refine Oa rfl (Aa (Ab (Aj (Se rfl (Oh rfl ?_))))); refine A1 rfl .free rfl ?_
 first | refine A5 rfl rfl 0 rfl .free rfl ?_ | refine A6 rfl rfl 0 rfl .free rfl ?_
 refine Bd rfl .free rfl ?_; refine Fo rfl .free rfl ?_; refine Od rfl rfl rfl (Om rfl ?_)
 apply Ci 12 15 rfl
 ·intro g1_7 hk
  try simp only [nb] at g1_7
  refine Ow rfl ?_; refine Dh rfl rfl rfl (.met rfl rfl) rfl ?_; refine Ot rfl rfl ?_
  exact Ar 2 rfl rfl hk
 ·intro _ hk; refine A0 2 rfl ?_; refine Of rfl rfl ?_
  exact Ar 2 rfl rfl hk
 refine Oa rfl (Aa ?_); refine As rfl ?_ ?_
 ·intro c0
  try simp only [nb] at c0
  obtain ⟨x, a, b, rfl⟩ := Ex.of_let (hhd.trans c0.1); obtain rfl : i = 3 := by omega
  simp only [Ex.ok, Bool.and_eq_true] at hok
  have hlen : (Ex.lt x a b).tree.parts.length = 4 := rfl
  have hx : ((Ex.lt x a b).tree.pt 1).atom.length ≤ Az := Ex.name_len hok.1.1
  refine Se rfl (Oh rfl ?_); refine A1 rfl .free rfl ?_
  first | refine A5 rfl rfl 1 rfl .free rfl ?_ | refine A6 rfl rfl 1 rfl .free rfl ?_
  refine Bd rfl .free rfl ?_; refine Fo rfl .free rfl ?_; refine Ol rfl rfl ?_; intro b21; refine Oa rfl (Aa ?_); refine Bi ?_; intro hz; refine Ad (.tmp rfl .nil) ?_
  exact ⟨_, L, hz, Bf, some ⟨b21, 0, none⟩, 1, rfl, G2 hz hx, rfl⟩
 intro c0
 try simp only [nb] at c0
 refine Se rfl (Oh rfl ?_); refine A1 rfl .free rfl ?_
 first | refine A5 rfl rfl 0 rfl .free rfl ?_ | refine A6 rfl rfl 0 rfl .free rfl ?_
 refine Bd rfl .free rfl ?_; refine Fo rfl .free rfl ?_; refine Od rfl rfl rfl (Oa rfl (Aa ?_)); refine As rfl ?_ ?_
 ·intro c1
  try simp only [nb] at c1
  obtain ⟨f, x, s, t, b, rfl⟩ := Ex.of_fun (hhd.trans c1); obtain rfl : i = 5 := by rw [Mr] at hi; simpa using hi
  simp only [Ex.ok, Bool.and_eq_true] at hok
  have hlen : (Ex.fn f x s t b).tree.parts.length = 6 := rfl
  have hx1 : ((Ex.fn f x s t b).tree.pt 1).atom.length ≤ Az := Ex.name_len hok.1.1.1.1.1
  have hx2 : ((Ex.fn f x s t b).tree.pt 2).atom.length ≤ Az := Ex.name_len hok.1.1.1.1.2
  refine Ab ?_; refine Dp 12 rfl rfl ?_; refine Da 0 rfl (Ai rfl) ?_; refine Dt 1 [12] rfl (Br rfl) ?_
  first | refine Da 2 rfl (Bl rfl rfl 1 rfl) ?_ | refine Da 2 rfl (Bm rfl rfl 1 rfl) ?_
  refine Da 3 rfl (Bb rfl) ?_; refine Dt 4 [12] rfl (Jd rfl) ?_; refine Da 5 rfl (Ai rfl) ?_; refine Dt 6 [12] rfl (Br rfl) ?_
  first | refine Da 7 rfl (Bl rfl rfl 2 rfl) ?_ | refine Da 7 rfl (Bm rfl rfl 2 rfl) ?_
  refine Da 8 rfl (Bb rfl) ?_; refine Dt 9 [12] rfl (Jd rfl) ?_; refine Fg 10 rfl (by kernel_rfl) rfl rfl rfl (by rfl) (by rfl) (by rfl) (by decide) (by decide) (by rfl) .free rfl (.inr Ao) ?_; intro b39; refine Da 11 rfl (A2 rfl) ?_; refine At (by kernel_rfl) ?_; refine Bi ?_; intro hz; refine Ad (.tmp rfl .nil) ?_
  exact ⟨_, L, hz, Bf, some ⟨b39, 0, none⟩, 2, rfl, N1 hz hx1 hx2, rfl⟩
 intro c1
 try simp only [nb] at c1
 refine Ae (Ak (Se rfl ?_)); refine D7 .free rfl ?_; intro b40; refine Oa rfl (Aa (Ad (.tmp rfl .nil) ?_))
 have hbd : e.binds i = [] := by
  cases e with
  | lt x a b => exact if_neg fun hi => by rcases c0 with h | h; exact h rfl; omega
  | fn f x s t b => exact absurd rfl c1
  | _ => rfl
 exact ⟨I, L, .refl _, Bf, some ⟨b40, 0, none⟩, 0, by rw [hbd]; rfl, by rw [hbd]; exact Gx I _, rfl⟩

def LP (l : List Ap) (L : Bh) : Cs := fun v I' L' => ∃ B c, v = B8 l.length c B ∧ Er 1 l.length c (l.map sv) B ∧ L' = Cf 9 (l.map sv) B ++ L
theorem Xe {l : List Ap} {B : Ju} {c : Nat} (hB : Er 1 l.length c (l.map sv) B) (hl : l.length ≤ Az) (I : Heap) (p : Nat × Obj) (L : Bh) (s : Ap) :
  Fun Tryz.prog 143 [B8 l.length c B, .string (str s)] I (p :: (Cf 9 (l.map sv) B ++ L)) (D0 (.bool (decide (s ∈ l))) I (p :: (Cf 9 (l.map sv) B ++ L))) := by
 obtain ⟨oa, c', hbv, hrd⟩ := Ze (I := I) (L := L) (e := 9) hB rfl hl; rw [hbv]
 exact Xc (hrd.sub fun w h => h.drop) c' s
theorem Pj {l : List Ap} {s : Ap} (h : s ∉ l) : Df l [s] = l ++ [s] := by simp [Df, G4, h]
theorem Q2 {l : List Ap} {s : Ap} (h : s ∈ l) : Df l [s] = l := by simp [Df, G4, h]
theorem Ho {l bd : List Ap} {e : Ex} {k n : Nat} (h : l.length + (e.size + k) ≤ n) : (Df l (e.occ bd)).length + k ≤ n := by
 have := Gq l (e.occ bd); have := e.occ_len bd; omega
theorem R7 {l bd bd' : List Ap} {e e' : Ex} {k n : Nat} (h : l.length + (e.size + (e'.size + k)) ≤ n) : (Df (Df l (e.occ bd)) (e'.occ bd')).length + k ≤ n := Ho (Ho h)
theorem Z0 : ∀ (n : Nat) {I : Heap} {e : Ex} {cs : List Value} (_ : SizeOf.sizeOf e < n) (_ : Rep I e.tree cs) (_ : e.ok = true) {bd : List Ap} {ob : Option Addr} {cb : Nat} (_ : Strs I ob bd cb) (_ : bd.length + 2 * e.size ≤ Az)
   (l : List Ap) (B : Ju) (c : Nat) (_ : l.length + e.size ≤ 4294967295) (_ : Er 1 l.length c (l.map sv) B) (L : Bh),
  Fun Tryz.prog 115 [.agg cs.toArray, .slice ob bd.length cb, B8 l.length c B] I (Cf 9 (l.map sv) B ++ L) (LP (Df l (e.occ bd)) L) := by
 intro n
 induction n with
 | zero => intro I e cs h; omega
 | succ n ihn =>
  intro I e cs hlt h hok bd ob cb hbd hbl l B c hl hB L; obtain ⟨oa, cc, oaf, cf, rfl, hf⟩ := h.at'
  have ha := hf.alen
  have hlN : l.length ≤ Az := by unfold Az; omega
  unfold Az at hbl
  refine Ag (by simp) ?_; refine Se rfl ?_; refine B7 rfl rfl .free rfl ?_; intro b3; refine Oa rfl (Aa (Ab (Se rfl (Oh rfl ?_)))); refine A1 rfl .free rfl ?_; refine Od rfl rfl rfl (Aa ?_); refine As rfl ?_ ?_
  ·intro c0
   try simp only [nb] at c0
   have hb : e.bare = true := by
    cases hb : e.bare with
    | true => rfl
    | false => exact absurd ((Ex.atom_iff hok).2 hb) c0
   refine Ab (Se rfl (Oh rfl ?_)); refine A1 rfl .free rfl ?_; refine Ca rfl (Kz e.tree.atom ha _ _) ?_; rintro _ _ _ _ ⟨rfl, rfl, rfl⟩; refine Cp rfl .free rfl ?_; refine Om rfl ?_
   apply Fx 17 22 rfl
   ·intro g2_5 hk
    try simp only [nb] at g2_5
    refine Ow rfl ?_; refine Ax rfl (.met rfl rfl) rfl ?_; refine A1 rfl (.met rfl rfl) rfl ?_; refine B9 rfl (.met rfl rfl) rfl (Xc (hbd.rd _) cb e.tree.atom) ?_; rintro _ _ _ _ ⟨rfl, rfl, rfl⟩; refine Of rfl rfl ?_
    exact Ar 4 rfl rfl hk
   ·intro _ hk; refine A0 4 rfl ?_; refine Ot rfl rfl ?_
    exact Ar 4 rfl rfl hk
   refine Om rfl ?_
   apply Fx 23 28 rfl
   ·intro g2_11 hk
    try simp only [nb] at g2_11
    refine Ow rfl ?_; refine Ax rfl (.met rfl rfl) rfl ?_; refine A1 rfl (.met rfl rfl) rfl ?_; refine B9 rfl (.met rfl rfl) rfl (Xe hB hlN _ _ _ _) ?_; rintro _ _ _ _ ⟨rfl, rfl, rfl⟩; refine Of rfl rfl ?_
    exact Ar 4 rfl rfl hk
   ·intro _ hk; refine A0 4 rfl ?_; refine Ot rfl rfl ?_
    exact Ar 4 rfl rfl hk
   refine Aa ?_; refine As rfl ?_ ?_
   ·intro c1
    try simp only [nb] at c1
    refine Se rfl (Om rfl (Oa rfl (Aa (Ad (.tmp rfl .nil) ?_))))
    have hoc : Df l (e.occ bd) = l := by
     cases e with
     | num s => rfl
     | name s =>
      have c1 : (Bv s = false ∨ s ∈ bd) ∨ s ∈ l := c1
      rcases c1 with (h | h) | h
      ·rw [show Bv s = true from hok] at h; cases h
      ·simp only [Ex.occ]; rw [if_pos h]; rfl
      ·simp only [Ex.occ]
       split
       ·rfl
       ·exact Q2 h
     | _ => cases hb
    exact ⟨I, _, .refl _, fun w h => h.drop, B, c, by rw [hoc]; rfl, by rw [hoc]; exact hB, by rw [hoc]⟩
   intro c1
   try simp only [nb] at c1
   refine Ae (Se rfl (Om rfl (Oh rfl ?_))); refine A1 rfl .free rfl ?_; refine Ol rfl rfl ?_; intro b33; refine Dw (B := B) (xs := l.map sv) (ys := [sv e.tree.atom]) (m := l.length) (c := c) (by intro kk; simp) (by rfl) rfl rfl hB (fun _ h => h.u2) (by rfl) (fun a ha => by cases ha; exact Ce (.head _) (by rfl)) (by simp) (by rfl) (by decide) (by decide) (by have := e.size_pos; omega) (by decide) .free rfl ?_; intro bb sp c2 hB'; refine Oa rfl (Aa (Ad (.tmp rfl .nil) ?_))
   have hoc : Df l (e.occ bd) = l ++ [e.tree.atom] := by
    cases e with
    | num s =>
     have h1 : Bv s = true := c1.1.1
     have h2 := Fd h1
     rw [show By s = true from hok] at h2; cases h2
    | name s =>
     have c1 : (Bv s = true ∧ ¬ s ∈ bd) ∧ ¬ s ∈ l := c1
     simp only [Ex.occ]; rw [if_neg c1.1.2]; exact Pj c1.2
    | _ => cases hb
   exact ⟨I, _, .refl _, Ms (L' := (bb, _) :: L), some (bb, sp), c2, by rw [hoc]; simp [C2, B8], by rw [hoc]; simpa using hB', by rw [hoc]; simp [Cf]⟩
  intro c0
  try simp only [nb] at c0
  have hb : e.bare = false := (Ex.atom_iff hok).1 (by simpa using c0)
  have hsh := e.shapes hb
  have h0 : 0 < e.tree.parts.length := by
   rw [Ex.bare_parts] at hb
   have : e.tree.parts ≠ [] := by intro hh; rw [hh] at hb; cases hb
   exact List.length_pos_iff.2 this
  have hhd := Kc h0
  have hok0 := hok
  have hle : HLe I I := .refl _
  refine Ae (Se rfl (Oh rfl ?_)); refine A1 rfl .free rfl ?_
  first | refine A5 rfl rfl 0 rfl .free rfl ?_ | refine A6 rfl rfl 0 rfl .free rfl ?_
  refine Bd rfl .free rfl ?_; refine Fo rfl .free rfl ?_; refine Ca rfl (Um (e.tree.pt 0).atom _ _) ?_; rw [← hhd]; rintro _ _ _ _ ⟨rfl, rfl, rfl⟩; refine Om rfl (Oe rfl rfl (Oe rfl rfl (Oa rfl (Oa rfl (Aa (Ab (Ab ?_)))))))
  rcases hsh with ⟨o, a, b, rfl⟩ | ⟨a, b, d, rfl⟩ | ⟨z, a, b, rfl⟩ | ⟨g, z, s, t, b, rfl⟩ | ⟨o, a, rfl⟩
  ·skip
   have hk : Ay (Ex.bin o a b).tree.head = (1, 3) := by cases o <;> rfl
   rw [hk]
   have hlen : (Ex.bin o a b).tree.parts.length = 3 := rfl
   have hki := Mq o a b
   simp only [Ex.bin.sizeOf_spec] at hlt
   simp only [Ex.size] at hbl hl
   simp only [Ex.ok, Bool.and_eq_true] at hok
   refine Af rfl (Om rfl (Oa rfl (Aa (Aj ?_)))); refine Dz ?_; refine Ab (Se rfl (Om rfl (Om rfl (Oc rfl rfl rfl (Aa ?_))))); refine Cc rfl (by first | rfl | decide | (simp; done) | omega) ?_; refine Ae (Ab (Aj ?_)); refine Sj 15 rfl rfl ?_; refine Da 0 rfl (Ai rfl) ?_; refine Dt 1 [15] rfl (Br rfl) ?_; refine Da 2 rfl (Ah rfl) ?_
   first | refine Da 3 rfl (Bl rfl rfl _ rfl) ?_ | refine Da 3 rfl (Bm rfl rfl _ rfl) ?_
   refine Dt 4 [15] rfl (Bq rfl) ?_; refine Da 6 rfl (Ah rfl) ?_; refine Dt 8 [15] rfl (Cx rfl) ?_; refine Da 9 rfl (Ah rfl) ?_; refine Da 12 rfl (Ah rfl) ?_; refine Hn 5 rfl (by kernel_rfl) rfl .free rfl (.inr Ao) ?_; intro b55; refine C4 7 (B := some (b55, [])) (xs := []) (ys := bd.map sv) (m := 0) (c := 0) rfl (by kernel_rfl) rfl (by intro kk; simp) (by rfl) rfl rfl ⟨rfl, Nat.le_refl _, rfl⟩ (fun _ h => h) (by simp) hbd.reads hbd.none (Dy bd) (by decide) (by omega) (by decide) .free rfl (fun _ => .inr Ao) ?_; intro B1 c1' hB1
   refine Dc 10 rfl rfl (Gc hf.rep hok0 hb _ (by rw [hki]; decide) _) ?_; rintro _ J1 _ e1 ⟨o1, k1, rfl, hs1, rfl⟩
   have hbd1 := hbd.mono e1
   refine Hx ?_; refine C4 11 (B := B1) (xs := bd.map sv) (ys := (Ex.binds _ _).map sv) (m := 0 + bd.length) (c := c1') rfl (by kernel_rfl) rfl (by intro kk; simp) (by rfl) rfl rfl hB1 (fun _ h => h) (by simp) hs1.reads hs1.none (Dy _) (by decide) (Ex.binds_room1 (by omega)) (by decide) .free rfl (fun _ => .inr Ao) ?_; intro B2 c2' hB2; rw [← List.map_append] at hB2 ⊢; refine E1 (l := bd ++ Ex.binds _ _) hB2 (by simp) (by rw [List.length_append]; exact Ex.binds_room0 (by omega)) (hbd1.append hs1) ?_; intro J3 o3 k3 ez hbv hs3; refine Ha (t := 61) rfl hbv ?_
   have e4 := e1.trans ez
   have hf3 := hf.mono e4
   refine C3 (fun w h => h.u1) ?_; refine Dc 13 rfl rfl (ihn (by omega) (hf3.as 1 a.tree (by omega) rfl) hok.1 hs3 (Ex.binds_room (by omega)) _ _ _ (by omega) hB _) ?_; rintro _ J4 _ e5 ⟨B, c, rfl, hB, rfl⟩
   have e6 := e4.trans e5
   refine Hx ?_; refine C3 (fun w h => h.w1) ?_
   have hf := hf.mono e6
   have hbd := hbd.mono e6
   have hle := hle.trans e6
   refine Da 14 rfl (A2 rfl) ?_; refine At (by kernel_rfl) ?_; refine Ak (Af rfl (Om rfl ?_)); refine Or rfl rfl rfl ?_; refine Oa rfl (Aa ?_); refine B0 ?_; refine Ab (Se rfl (Om rfl (Om rfl (Oc rfl rfl rfl (Aa ?_))))); refine Cc rfl (by first | rfl | decide | (simp; done) | omega) ?_; refine Ae (Ab (Aj ?_)); refine Sj 15 rfl rfl ?_; refine Da 0 rfl (Ai rfl) ?_; refine Dt 1 [15] rfl (Br rfl) ?_; refine Da 2 rfl (Ah rfl) ?_
   first | refine Da 3 rfl (Bl rfl rfl _ rfl) ?_ | refine Da 3 rfl (Bm rfl rfl _ rfl) ?_
   refine Dt 4 [15] rfl (Bq rfl) ?_; refine Da 6 rfl (Ah rfl) ?_; refine Dt 8 [15] rfl (Cx rfl) ?_; refine Da 9 rfl (Ah rfl) ?_; refine Da 12 rfl (Ah rfl) ?_; refine Hn 5 rfl (by kernel_rfl) rfl .free rfl (.inr Ao) ?_; intro b55; refine C4 7 (B := some (b55, [])) (xs := []) (ys := bd.map sv) (m := 0) (c := 0) rfl (by kernel_rfl) rfl (by intro kk; simp) (by rfl) rfl rfl ⟨rfl, Nat.le_refl _, rfl⟩ (fun _ h => h) (by simp) hbd.reads hbd.none (Dy bd) (by decide) (by omega) (by decide) .free rfl (fun _ => .inr Ao) ?_; intro B1 c1' hB1
   refine Dc 10 rfl rfl (Gc hf.rep hok0 hb _ (by rw [hki]; decide) _) ?_; rintro _ J1 _ e1 ⟨o1, k1, rfl, hs1, rfl⟩
   have hbd1 := hbd.mono e1
   refine Hx ?_; refine C4 11 (B := B1) (xs := bd.map sv) (ys := (Ex.binds _ _).map sv) (m := 0 + bd.length) (c := c1') rfl (by kernel_rfl) rfl (by intro kk; simp) (by rfl) rfl rfl hB1 (fun _ h => h) (by simp) hs1.reads hs1.none (Dy _) (by decide) (Ex.binds_room1 (by omega)) (by decide) .free rfl (fun _ => .inr Ao) ?_; intro B2 c2' hB2; rw [← List.map_append] at hB2 ⊢; refine E1 (l := bd ++ Ex.binds _ _) hB2 (by simp) (by rw [List.length_append]; exact Ex.binds_room0 (by omega)) (hbd1.append hs1) ?_; intro J3 o3 k3 ez hbv hs3; refine Ha (t := 61) rfl hbv ?_
   have e4 := e1.trans ez
   have hf3 := hf.mono e4
   refine C3 (fun w h => h.u1) ?_; refine Dc 13 rfl rfl (ihn (by omega) (hf3.as 2 b.tree (by omega) rfl) hok.2 hs3 (Ex.binds_room (by omega)) _ _ _ (Ho (by omega)) hB _) ?_; rintro _ J4 _ e5 ⟨B, c, rfl, hB, rfl⟩
   have e6 := e4.trans e5
   refine Hx ?_; refine C3 (fun w h => h.w1) ?_
   have hf := hf.mono e6
   have hbd := hbd.mono e6
   have hle := hle.trans e6
   refine Da 14 rfl (A2 rfl) ?_; refine At (by kernel_rfl) ?_; refine Ak (Af rfl (Om rfl ?_)); refine Or rfl rfl rfl ?_; refine Oa rfl (Aa ?_); refine B0 ?_; refine Ab (Se rfl (Om rfl (Om rfl (Oc rfl rfl rfl (Aa ?_))))); refine C5 rfl (by first | rfl | decide | (simp; done) | omega) ?_; refine Bz rfl ?_; refine Se rfl (Om rfl (Oa rfl (Aa (Ad (.tmp rfl .nil) ?_))))
   exact ⟨_, _, hle, fun w h => h.drop, B, c, by simp [Ex.occ, Ex.binds, Co, C2], by simpa [Ex.occ, Ex.binds, Co] using hB, by simp [Ex.occ, Ex.binds, Co]⟩
  ·skip
   have hk : Ay (Ex.ite a b d).tree.head = (1, 4) := rfl
   rw [hk]
   have hlen : (Ex.ite a b d).tree.parts.length = 4 := rfl
   have hki := Mt a b d
   simp only [Ex.ite.sizeOf_spec] at hlt
   simp only [Ex.size] at hbl hl
   simp only [Ex.ok, Bool.and_eq_true] at hok
   refine Af rfl (Om rfl (Oa rfl (Aa (Aj ?_)))); refine Dz ?_; refine Ab (Se rfl (Om rfl (Om rfl (Oc rfl rfl rfl (Aa ?_))))); refine Cc rfl (by first | rfl | decide | (simp; done) | omega) ?_; refine Ae (Ab (Aj ?_)); refine Sj 15 rfl rfl ?_; refine Da 0 rfl (Ai rfl) ?_; refine Dt 1 [15] rfl (Br rfl) ?_; refine Da 2 rfl (Ah rfl) ?_
   first | refine Da 3 rfl (Bl rfl rfl _ rfl) ?_ | refine Da 3 rfl (Bm rfl rfl _ rfl) ?_
   refine Dt 4 [15] rfl (Bq rfl) ?_; refine Da 6 rfl (Ah rfl) ?_; refine Dt 8 [15] rfl (Cx rfl) ?_; refine Da 9 rfl (Ah rfl) ?_; refine Da 12 rfl (Ah rfl) ?_; refine Hn 5 rfl (by kernel_rfl) rfl .free rfl (.inr Ao) ?_; intro b55; refine C4 7 (B := some (b55, [])) (xs := []) (ys := bd.map sv) (m := 0) (c := 0) rfl (by kernel_rfl) rfl (by intro kk; simp) (by rfl) rfl rfl ⟨rfl, Nat.le_refl _, rfl⟩ (fun _ h => h) (by simp) hbd.reads hbd.none (Dy bd) (by decide) (by omega) (by decide) .free rfl (fun _ => .inr Ao) ?_; intro B1 c1' hB1
   refine Dc 10 rfl rfl (Gc hf.rep hok0 hb _ (by rw [hki]; decide) _) ?_; rintro _ J1 _ e1 ⟨o1, k1, rfl, hs1, rfl⟩
   have hbd1 := hbd.mono e1
   refine Hx ?_; refine C4 11 (B := B1) (xs := bd.map sv) (ys := (Ex.binds _ _).map sv) (m := 0 + bd.length) (c := c1') rfl (by kernel_rfl) rfl (by intro kk; simp) (by rfl) rfl rfl hB1 (fun _ h => h) (by simp) hs1.reads hs1.none (Dy _) (by decide) (Ex.binds_room1 (by omega)) (by decide) .free rfl (fun _ => .inr Ao) ?_; intro B2 c2' hB2; rw [← List.map_append] at hB2 ⊢; refine E1 (l := bd ++ Ex.binds _ _) hB2 (by simp) (by rw [List.length_append]; exact Ex.binds_room0 (by omega)) (hbd1.append hs1) ?_; intro J3 o3 k3 ez hbv hs3; refine Ha (t := 61) rfl hbv ?_
   have e4 := e1.trans ez
   have hf3 := hf.mono e4
   refine C3 (fun w h => h.u1) ?_; refine Dc 13 rfl rfl (ihn (by omega) (hf3.as 1 a.tree (by omega) rfl) hok.1.1 hs3 (Ex.binds_room (by omega)) _ _ _ (by omega) hB _) ?_; rintro _ J4 _ e5 ⟨B, c, rfl, hB, rfl⟩
   have e6 := e4.trans e5
   refine Hx ?_; refine C3 (fun w h => h.w1) ?_
   have hf := hf.mono e6
   have hbd := hbd.mono e6
   have hle := hle.trans e6
   refine Da 14 rfl (A2 rfl) ?_; refine At (by kernel_rfl) ?_; refine Ak (Af rfl (Om rfl ?_)); refine Or rfl rfl rfl ?_; refine Oa rfl (Aa ?_); refine B0 ?_; refine Ab (Se rfl (Om rfl (Om rfl (Oc rfl rfl rfl (Aa ?_))))); refine Cc rfl (by first | rfl | decide | (simp; done) | omega) ?_; refine Ae (Ab (Aj ?_)); refine Sj 15 rfl rfl ?_; refine Da 0 rfl (Ai rfl) ?_; refine Dt 1 [15] rfl (Br rfl) ?_; refine Da 2 rfl (Ah rfl) ?_
   first | refine Da 3 rfl (Bl rfl rfl _ rfl) ?_ | refine Da 3 rfl (Bm rfl rfl _ rfl) ?_
   refine Dt 4 [15] rfl (Bq rfl) ?_; refine Da 6 rfl (Ah rfl) ?_; refine Dt 8 [15] rfl (Cx rfl) ?_; refine Da 9 rfl (Ah rfl) ?_; refine Da 12 rfl (Ah rfl) ?_; refine Hn 5 rfl (by kernel_rfl) rfl .free rfl (.inr Ao) ?_; intro b55; refine C4 7 (B := some (b55, [])) (xs := []) (ys := bd.map sv) (m := 0) (c := 0) rfl (by kernel_rfl) rfl (by intro kk; simp) (by rfl) rfl rfl ⟨rfl, Nat.le_refl _, rfl⟩ (fun _ h => h) (by simp) hbd.reads hbd.none (Dy bd) (by decide) (by omega) (by decide) .free rfl (fun _ => .inr Ao) ?_; intro B1 c1' hB1
   refine Dc 10 rfl rfl (Gc hf.rep hok0 hb _ (by rw [hki]; decide) _) ?_; rintro _ J1 _ e1 ⟨o1, k1, rfl, hs1, rfl⟩
   have hbd1 := hbd.mono e1
   refine Hx ?_; refine C4 11 (B := B1) (xs := bd.map sv) (ys := (Ex.binds _ _).map sv) (m := 0 + bd.length) (c := c1') rfl (by kernel_rfl) rfl (by intro kk; simp) (by rfl) rfl rfl hB1 (fun _ h => h) (by simp) hs1.reads hs1.none (Dy _) (by decide) (Ex.binds_room1 (by omega)) (by decide) .free rfl (fun _ => .inr Ao) ?_; intro B2 c2' hB2; rw [← List.map_append] at hB2 ⊢; refine E1 (l := bd ++ Ex.binds _ _) hB2 (by simp) (by rw [List.length_append]; exact Ex.binds_room0 (by omega)) (hbd1.append hs1) ?_; intro J3 o3 k3 ez hbv hs3; refine Ha (t := 61) rfl hbv ?_
   have e4 := e1.trans ez
   have hf3 := hf.mono e4
   refine C3 (fun w h => h.u1) ?_; refine Dc 13 rfl rfl (ihn (by omega) (hf3.as 2 b.tree (by omega) rfl) hok.1.2 hs3 (Ex.binds_room (by omega)) _ _ _ (Ho (by omega)) hB _) ?_; rintro _ J4 _ e5 ⟨B, c, rfl, hB, rfl⟩
   have e6 := e4.trans e5
   refine Hx ?_; refine C3 (fun w h => h.w1) ?_
   have hf := hf.mono e6
   have hbd := hbd.mono e6
   have hle := hle.trans e6
   refine Da 14 rfl (A2 rfl) ?_; refine At (by kernel_rfl) ?_; refine Ak (Af rfl (Om rfl ?_)); refine Or rfl rfl rfl ?_; refine Oa rfl (Aa ?_); refine B0 ?_; refine Ab (Se rfl (Om rfl (Om rfl (Oc rfl rfl rfl (Aa ?_))))); refine Cc rfl (by first | rfl | decide | (simp; done) | omega) ?_; refine Ae (Ab (Aj ?_)); refine Sj 15 rfl rfl ?_; refine Da 0 rfl (Ai rfl) ?_; refine Dt 1 [15] rfl (Br rfl) ?_; refine Da 2 rfl (Ah rfl) ?_
   first | refine Da 3 rfl (Bl rfl rfl _ rfl) ?_ | refine Da 3 rfl (Bm rfl rfl _ rfl) ?_
   refine Dt 4 [15] rfl (Bq rfl) ?_; refine Da 6 rfl (Ah rfl) ?_; refine Dt 8 [15] rfl (Cx rfl) ?_; refine Da 9 rfl (Ah rfl) ?_; refine Da 12 rfl (Ah rfl) ?_; refine Hn 5 rfl (by kernel_rfl) rfl .free rfl (.inr Ao) ?_; intro b55; refine C4 7 (B := some (b55, [])) (xs := []) (ys := bd.map sv) (m := 0) (c := 0) rfl (by kernel_rfl) rfl (by intro kk; simp) (by rfl) rfl rfl ⟨rfl, Nat.le_refl _, rfl⟩ (fun _ h => h) (by simp) hbd.reads hbd.none (Dy bd) (by decide) (by omega) (by decide) .free rfl (fun _ => .inr Ao) ?_; intro B1 c1' hB1
   refine Dc 10 rfl rfl (Gc hf.rep hok0 hb _ (by rw [hki]; decide) _) ?_; rintro _ J1 _ e1 ⟨o1, k1, rfl, hs1, rfl⟩
   have hbd1 := hbd.mono e1
   refine Hx ?_; refine C4 11 (B := B1) (xs := bd.map sv) (ys := (Ex.binds _ _).map sv) (m := 0 + bd.length) (c := c1') rfl (by kernel_rfl) rfl (by intro kk; simp) (by rfl) rfl rfl hB1 (fun _ h => h) (by simp) hs1.reads hs1.none (Dy _) (by decide) (Ex.binds_room1 (by omega)) (by decide) .free rfl (fun _ => .inr Ao) ?_; intro B2 c2' hB2; rw [← List.map_append] at hB2 ⊢; refine E1 (l := bd ++ Ex.binds _ _) hB2 (by simp) (by rw [List.length_append]; exact Ex.binds_room0 (by omega)) (hbd1.append hs1) ?_; intro J3 o3 k3 ez hbv hs3; refine Ha (t := 61) rfl hbv ?_
   have e4 := e1.trans ez
   have hf3 := hf.mono e4
   refine C3 (fun w h => h.u1) ?_; refine Dc 13 rfl rfl (ihn (by omega) (hf3.as 3 d.tree (by omega) rfl) hok.2 hs3 (Ex.binds_room (by omega)) _ _ _ (R7 (by omega)) hB _) ?_; rintro _ J4 _ e5 ⟨B, c, rfl, hB, rfl⟩
   have e6 := e4.trans e5
   refine Hx ?_; refine C3 (fun w h => h.w1) ?_
   have hf := hf.mono e6
   have hbd := hbd.mono e6
   have hle := hle.trans e6
   refine Da 14 rfl (A2 rfl) ?_; refine At (by kernel_rfl) ?_; refine Ak (Af rfl (Om rfl ?_)); refine Or rfl rfl rfl ?_; refine Oa rfl (Aa ?_); refine B0 ?_; refine Ab (Se rfl (Om rfl (Om rfl (Oc rfl rfl rfl (Aa ?_))))); refine C5 rfl (by first | rfl | decide | (simp; done) | omega) ?_; refine Bz rfl ?_; refine Se rfl (Om rfl (Oa rfl (Aa (Ad (.tmp rfl .nil) ?_))))
   exact ⟨_, _, hle, fun w h => h.drop, B, c, by simp [Ex.occ, Ex.binds, Co, C2], by simpa [Ex.occ, Ex.binds, Co] using hB, by simp [Ex.occ, Ex.binds, Co]⟩
  ·skip
   have hk : Ay (Ex.lt z a b).tree.head = (2, 4) := rfl
   rw [hk]
   have hlen : (Ex.lt z a b).tree.parts.length = 4 := rfl
   have hki := Mu z a b
   simp only [Ex.lt.sizeOf_spec] at hlt
   simp only [Ex.size] at hbl hl
   simp only [Ex.ok, Bool.and_eq_true] at hok
   refine Af rfl (Om rfl (Oa rfl (Aa (Aj ?_)))); refine Dz ?_; refine Ab (Se rfl (Om rfl (Om rfl (Oc rfl rfl rfl (Aa ?_))))); refine Cc rfl (by first | rfl | decide | (simp; done) | omega) ?_; refine Ae (Ab (Aj ?_)); refine Sj 15 rfl rfl ?_; refine Da 0 rfl (Ai rfl) ?_; refine Dt 1 [15] rfl (Br rfl) ?_; refine Da 2 rfl (Ah rfl) ?_
   first | refine Da 3 rfl (Bl rfl rfl _ rfl) ?_ | refine Da 3 rfl (Bm rfl rfl _ rfl) ?_
   refine Dt 4 [15] rfl (Bq rfl) ?_; refine Da 6 rfl (Ah rfl) ?_; refine Dt 8 [15] rfl (Cx rfl) ?_; refine Da 9 rfl (Ah rfl) ?_; refine Da 12 rfl (Ah rfl) ?_; refine Hn 5 rfl (by kernel_rfl) rfl .free rfl (.inr Ao) ?_; intro b55; refine C4 7 (B := some (b55, [])) (xs := []) (ys := bd.map sv) (m := 0) (c := 0) rfl (by kernel_rfl) rfl (by intro kk; simp) (by rfl) rfl rfl ⟨rfl, Nat.le_refl _, rfl⟩ (fun _ h => h) (by simp) hbd.reads hbd.none (Dy bd) (by decide) (by omega) (by decide) .free rfl (fun _ => .inr Ao) ?_; intro B1 c1' hB1
   refine Dc 10 rfl rfl (Gc hf.rep hok0 hb _ (by rw [hki]; decide) _) ?_; rintro _ J1 _ e1 ⟨o1, k1, rfl, hs1, rfl⟩
   have hbd1 := hbd.mono e1
   refine Hx ?_; refine C4 11 (B := B1) (xs := bd.map sv) (ys := (Ex.binds _ _).map sv) (m := 0 + bd.length) (c := c1') rfl (by kernel_rfl) rfl (by intro kk; simp) (by rfl) rfl rfl hB1 (fun _ h => h) (by simp) hs1.reads hs1.none (Dy _) (by decide) (Ex.binds_room1 (by omega)) (by decide) .free rfl (fun _ => .inr Ao) ?_; intro B2 c2' hB2; rw [← List.map_append] at hB2 ⊢; refine E1 (l := bd ++ Ex.binds _ _) hB2 (by simp) (by rw [List.length_append]; exact Ex.binds_room0 (by omega)) (hbd1.append hs1) ?_; intro J3 o3 k3 ez hbv hs3; refine Ha (t := 61) rfl hbv ?_
   have e4 := e1.trans ez
   have hf3 := hf.mono e4
   refine C3 (fun w h => h.u1) ?_; refine Dc 13 rfl rfl (ihn (by omega) (hf3.as 2 a.tree (by omega) rfl) hok.1.2 hs3 (Ex.binds_room (by omega)) _ _ _ (by omega) hB _) ?_; rintro _ J4 _ e5 ⟨B, c, rfl, hB, rfl⟩
   have e6 := e4.trans e5
   refine Hx ?_; refine C3 (fun w h => h.w1) ?_
   have hf := hf.mono e6
   have hbd := hbd.mono e6
   have hle := hle.trans e6
   refine Da 14 rfl (A2 rfl) ?_; refine At (by kernel_rfl) ?_; refine Ak (Af rfl (Om rfl ?_)); refine Or rfl rfl rfl ?_; refine Oa rfl (Aa ?_); refine B0 ?_; refine Ab (Se rfl (Om rfl (Om rfl (Oc rfl rfl rfl (Aa ?_))))); refine Cc rfl (by first | rfl | decide | (simp; done) | omega) ?_; refine Ae (Ab (Aj ?_)); refine Sj 15 rfl rfl ?_; refine Da 0 rfl (Ai rfl) ?_; refine Dt 1 [15] rfl (Br rfl) ?_; refine Da 2 rfl (Ah rfl) ?_
   first | refine Da 3 rfl (Bl rfl rfl _ rfl) ?_ | refine Da 3 rfl (Bm rfl rfl _ rfl) ?_
   refine Dt 4 [15] rfl (Bq rfl) ?_; refine Da 6 rfl (Ah rfl) ?_; refine Dt 8 [15] rfl (Cx rfl) ?_; refine Da 9 rfl (Ah rfl) ?_; refine Da 12 rfl (Ah rfl) ?_; refine Hn 5 rfl (by kernel_rfl) rfl .free rfl (.inr Ao) ?_; intro b55; refine C4 7 (B := some (b55, [])) (xs := []) (ys := bd.map sv) (m := 0) (c := 0) rfl (by kernel_rfl) rfl (by intro kk; simp) (by rfl) rfl rfl ⟨rfl, Nat.le_refl _, rfl⟩ (fun _ h => h) (by simp) hbd.reads hbd.none (Dy bd) (by decide) (by omega) (by decide) .free rfl (fun _ => .inr Ao) ?_; intro B1 c1' hB1
   refine Dc 10 rfl rfl (Gc hf.rep hok0 hb _ (by rw [hki]; decide) _) ?_; rintro _ J1 _ e1 ⟨o1, k1, rfl, hs1, rfl⟩
   have hbd1 := hbd.mono e1
   refine Hx ?_; refine C4 11 (B := B1) (xs := bd.map sv) (ys := (Ex.binds _ _).map sv) (m := 0 + bd.length) (c := c1') rfl (by kernel_rfl) rfl (by intro kk; simp) (by rfl) rfl rfl hB1 (fun _ h => h) (by simp) hs1.reads hs1.none (Dy _) (by decide) (Ex.binds_room1 (by omega)) (by decide) .free rfl (fun _ => .inr Ao) ?_; intro B2 c2' hB2; rw [← List.map_append] at hB2 ⊢; refine E1 (l := bd ++ Ex.binds _ _) hB2 (by simp) (by rw [List.length_append]; exact Ex.binds_room0 (by omega)) (hbd1.append hs1) ?_; intro J3 o3 k3 ez hbv hs3; refine Ha (t := 61) rfl hbv ?_
   have e4 := e1.trans ez
   have hf3 := hf.mono e4
   refine C3 (fun w h => h.u1) ?_; refine Dc 13 rfl rfl (ihn (by omega) (hf3.as 3 b.tree (by omega) rfl) hok.2 hs3 (Ex.binds_room (by omega)) _ _ _ (Ho (by omega)) hB _) ?_; rintro _ J4 _ e5 ⟨B, c, rfl, hB, rfl⟩
   have e6 := e4.trans e5
   refine Hx ?_; refine C3 (fun w h => h.w1) ?_
   have hf := hf.mono e6
   have hbd := hbd.mono e6
   have hle := hle.trans e6
   refine Da 14 rfl (A2 rfl) ?_; refine At (by kernel_rfl) ?_; refine Ak (Af rfl (Om rfl ?_)); refine Or rfl rfl rfl ?_; refine Oa rfl (Aa ?_); refine B0 ?_; refine Ab (Se rfl (Om rfl (Om rfl (Oc rfl rfl rfl (Aa ?_))))); refine C5 rfl (by first | rfl | decide | (simp; done) | omega) ?_; refine Bz rfl ?_; refine Se rfl (Om rfl (Oa rfl (Aa (Ad (.tmp rfl .nil) ?_))))
   exact ⟨_, _, hle, fun w h => h.drop, B, c, by simp [Ex.occ, Ex.binds, Co, C2], by simpa [Ex.occ, Ex.binds, Co] using hB, by simp [Ex.occ, Ex.binds, Co]⟩
  ·skip
   have hk : Ay (Ex.fn g z s t b).tree.head = (5, 6) := rfl
   rw [hk]
   have hlen : (Ex.fn g z s t b).tree.parts.length = 6 := rfl
   have hki := Mr g z s t b
   simp only [Ex.fn.sizeOf_spec] at hlt
   simp only [Ex.size] at hbl hl
   simp only [Ex.ok, Bool.and_eq_true] at hok
   refine Af rfl (Om rfl (Oa rfl (Aa (Aj ?_)))); refine Dz ?_; refine Ab (Se rfl (Om rfl (Om rfl (Oc rfl rfl rfl (Aa ?_))))); refine Cc rfl (by first | rfl | decide | (simp; done) | omega) ?_; refine Ae (Ab (Aj ?_)); refine Sj 15 rfl rfl ?_; refine Da 0 rfl (Ai rfl) ?_; refine Dt 1 [15] rfl (Br rfl) ?_; refine Da 2 rfl (Ah rfl) ?_
   first | refine Da 3 rfl (Bl rfl rfl _ rfl) ?_ | refine Da 3 rfl (Bm rfl rfl _ rfl) ?_
   refine Dt 4 [15] rfl (Bq rfl) ?_; refine Da 6 rfl (Ah rfl) ?_; refine Dt 8 [15] rfl (Cx rfl) ?_; refine Da 9 rfl (Ah rfl) ?_; refine Da 12 rfl (Ah rfl) ?_; refine Hn 5 rfl (by kernel_rfl) rfl .free rfl (.inr Ao) ?_; intro b55; refine C4 7 (B := some (b55, [])) (xs := []) (ys := bd.map sv) (m := 0) (c := 0) rfl (by kernel_rfl) rfl (by intro kk; simp) (by rfl) rfl rfl ⟨rfl, Nat.le_refl _, rfl⟩ (fun _ h => h) (by simp) hbd.reads hbd.none (Dy bd) (by decide) (by omega) (by decide) .free rfl (fun _ => .inr Ao) ?_; intro B1 c1' hB1
   refine Dc 10 rfl rfl (Gc hf.rep hok0 hb _ (by rw [hki]; decide) _) ?_; rintro _ J1 _ e1 ⟨o1, k1, rfl, hs1, rfl⟩
   have hbd1 := hbd.mono e1
   refine Hx ?_; refine C4 11 (B := B1) (xs := bd.map sv) (ys := (Ex.binds _ _).map sv) (m := 0 + bd.length) (c := c1') rfl (by kernel_rfl) rfl (by intro kk; simp) (by rfl) rfl rfl hB1 (fun _ h => h) (by simp) hs1.reads hs1.none (Dy _) (by decide) (Ex.binds_room1 (by omega)) (by decide) .free rfl (fun _ => .inr Ao) ?_; intro B2 c2' hB2; rw [← List.map_append] at hB2 ⊢; refine E1 (l := bd ++ Ex.binds _ _) hB2 (by simp) (by rw [List.length_append]; exact Ex.binds_room0 (by omega)) (hbd1.append hs1) ?_; intro J3 o3 k3 ez hbv hs3; refine Ha (t := 61) rfl hbv ?_
   have e4 := e1.trans ez
   have hf3 := hf.mono e4
   refine C3 (fun w h => h.u1) ?_; refine Dc 13 rfl rfl (ihn (by omega) (hf3.as 5 b.tree (by omega) rfl) hok.2 hs3 (Ex.binds_room (by omega)) _ _ _ (by omega) hB _) ?_; rintro _ J4 _ e5 ⟨B, c, rfl, hB, rfl⟩
   have e6 := e4.trans e5
   refine Hx ?_; refine C3 (fun w h => h.w1) ?_
   have hf := hf.mono e6
   have hbd := hbd.mono e6
   have hle := hle.trans e6
   refine Da 14 rfl (A2 rfl) ?_; refine At (by kernel_rfl) ?_; refine Ak (Af rfl (Om rfl ?_)); refine Or rfl rfl rfl ?_; refine Oa rfl (Aa ?_); refine B0 ?_; refine Ab (Se rfl (Om rfl (Om rfl (Oc rfl rfl rfl (Aa ?_))))); refine C5 rfl (by first | rfl | decide | (simp; done) | omega) ?_; refine Bz rfl ?_; refine Se rfl (Om rfl (Oa rfl (Aa (Ad (.tmp rfl .nil) ?_))))
   exact ⟨_, _, hle, fun w h => h.drop, B, c, by simp [Ex.occ, Ex.binds, Co, C2], by simpa [Ex.occ, Ex.binds, Co] using hB, by simp [Ex.occ, Ex.binds, Co]⟩
  ·skip
   have hk : Ay (Ex.un o a).tree.head = (1, 2) := by cases o <;> rfl
   rw [hk]
   have hlen : (Ex.un o a).tree.parts.length = 2 := rfl
   have hki := Pd o a
   simp only [Ex.un.sizeOf_spec] at hlt
   simp only [Ex.size] at hbl hl
   simp only [Ex.ok] at hok
   refine Af rfl (Om rfl (Oa rfl (Aa (Aj ?_)))); refine Dz ?_; refine Ab (Se rfl (Om rfl (Om rfl (Oc rfl rfl rfl (Aa ?_))))); refine Cc rfl (by first | rfl | decide | (simp; done) | omega) ?_; refine Ae (Ab (Aj ?_)); refine Sj 15 rfl rfl ?_; refine Da 0 rfl (Ai rfl) ?_; refine Dt 1 [15] rfl (Br rfl) ?_; refine Da 2 rfl (Ah rfl) ?_
   first | refine Da 3 rfl (Bl rfl rfl _ rfl) ?_ | refine Da 3 rfl (Bm rfl rfl _ rfl) ?_
   refine Dt 4 [15] rfl (Bq rfl) ?_; refine Da 6 rfl (Ah rfl) ?_; refine Dt 8 [15] rfl (Cx rfl) ?_; refine Da 9 rfl (Ah rfl) ?_; refine Da 12 rfl (Ah rfl) ?_; refine Hn 5 rfl (by kernel_rfl) rfl .free rfl (.inr Ao) ?_; intro b55; refine C4 7 (B := some (b55, [])) (xs := []) (ys := bd.map sv) (m := 0) (c := 0) rfl (by kernel_rfl) rfl (by intro kk; simp) (by rfl) rfl rfl ⟨rfl, Nat.le_refl _, rfl⟩ (fun _ h => h) (by simp) hbd.reads hbd.none (Dy bd) (by decide) (by omega) (by decide) .free rfl (fun _ => .inr Ao) ?_; intro B1 c1' hB1
   refine Dc 10 rfl rfl (Gc hf.rep hok0 hb _ (by rw [hki]; decide) _) ?_; rintro _ J1 _ e1 ⟨o1, k1, rfl, hs1, rfl⟩
   have hbd1 := hbd.mono e1
   refine Hx ?_; refine C4 11 (B := B1) (xs := bd.map sv) (ys := (Ex.binds _ _).map sv) (m := 0 + bd.length) (c := c1') rfl (by kernel_rfl) rfl (by intro kk; simp) (by rfl) rfl rfl hB1 (fun _ h => h) (by simp) hs1.reads hs1.none (Dy _) (by decide) (Ex.binds_room1 (by omega)) (by decide) .free rfl (fun _ => .inr Ao) ?_; intro B2 c2' hB2; rw [← List.map_append] at hB2 ⊢; refine E1 (l := bd ++ Ex.binds _ _) hB2 (by simp) (by rw [List.length_append]; exact Ex.binds_room0 (by omega)) (hbd1.append hs1) ?_; intro J3 o3 k3 ez hbv hs3; refine Ha (t := 61) rfl hbv ?_
   have e4 := e1.trans ez
   have hf3 := hf.mono e4
   refine C3 (fun w h => h.u1) ?_; refine Dc 13 rfl rfl (ihn (by omega) (hf3.as 1 a.tree (by omega) rfl) hok hs3 (Ex.binds_room (by omega)) _ _ _ (by omega) hB _) ?_; rintro _ J4 _ e5 ⟨B, c, rfl, hB, rfl⟩
   have e6 := e4.trans e5
   refine Hx ?_; refine C3 (fun w h => h.w1) ?_
   have hf := hf.mono e6
   have hbd := hbd.mono e6
   have hle := hle.trans e6
   refine Da 14 rfl (A2 rfl) ?_; refine At (by kernel_rfl) ?_; refine Ak (Af rfl (Om rfl ?_)); refine Or rfl rfl rfl ?_; refine Oa rfl (Aa ?_); refine B0 ?_; refine Ab (Se rfl (Om rfl (Om rfl (Oc rfl rfl rfl (Aa ?_))))); refine C5 rfl (by first | rfl | decide | (simp; done) | omega) ?_; refine Bz rfl ?_; refine Se rfl (Om rfl (Oa rfl (Aa (Ad (.tmp rfl .nil) ?_))))
   exact ⟨_, _, hle, fun w h => h.drop, B, c, by simp [Ex.occ, Ex.binds, Co, C2], by simpa [Ex.occ, Ex.binds, Co] using hB, by simp [Ex.occ, Ex.binds, Co]⟩

def Hd (s : Ap) : Option (List Ap) := (E5 s).map Ex.free
def Bw (s : Ap) : Option Ex := match E5 s with
 | some e => if e.closed = true then some e else none
 | none => none
def EF (o : Option (List Ap)) (L : Bh) : Cs := fun v I' L' => ∃ oa c, v = .tuple #[.slice oa (o.getD []).length c, .bool o.isSome] ∧ Strs I' oa (o.getD []) c ∧ L = L'
theorem X3 {e : Ex} (h : e.fine = true) : e.size ≤ 120 := by
 simp only [Ex.fine, Bool.and_eq_true, decide_eq_true_eq] at h; exact h.1.2
theorem Q8 {s : Ap} {e : Ex} (h : E5 s = some e) : e.size ≤ 120 := X3 (Jn h).2.1
theorem V9 (s : Ap) (hs : s.length ≤ Iz) (I : Heap) (L : Bh) : Fun Tryz.prog 68 [.string (str s)] I L (EF (Hd s) L) := by
 refine Ag (by simp) ?_; refine Se rfl (Oa rfl (Oa rfl (Aa (Se rfl (Om rfl ?_))))); refine Ca rfl (Kb s hs _ _) ?_; rintro _ J _ hleJ ⟨t, cs, ok, rfl, hrep, rfl, hpf⟩; obtain ⟨oa, cc, vs, rfl, -⟩ := hrep.open; refine Om rfl (Oe rfl rfl (Oe rfl rfl ?_)); refine Aw .free rfl ?_; intro b4; refine Bn rfl rfl rfl rfl .free ?_; refine Oa rfl (Aa (Ab (Se rfl (Om rfl ?_)))); refine Cp rfl .free rfl ?_; refine Aa ?_; refine As rfl ?_ ?_
 ·intro c0
  try simp only [nb] at c0
  refine Se rfl ?_; refine D7 .free rfl ?_; intro b13; refine Oa rfl (Oa rfl (Aa ?_)); refine Ad (.tmp rfl (.tmp rfl .nil)) ?_
  exact ⟨J, L, hleJ, fun w h => h.drop.drop, some ⟨b13, 0, none⟩, 0, by rw [Hd, R5 hpf c0]; rfl, by rw [Hd, R5 hpf c0]; exact Gx _ _, rfl⟩
 intro c0
 try simp only [nb] at c0
 obtain ⟨e, he, rfl, hok, -⟩ := Pc hpf c0
 have hez := Q8 he
 refine Ae (Se rfl ?_); refine A3 rfl .free rfl ?_; refine D7 .free rfl ?_; intro b15; refine D7 .free rfl ?_; intro b16; refine D4 (L' := Cf 9 (([] : List Ap).map sv) (some (b16, [])) ++ _) (fun w h => h) ?_; refine Ca rfl (Z0 _ (Nat.lt_succ_self _) hrep hok (Gx _ _) (by unfold Az; simp; omega) [] (some (b16, [])) 0 (by simp; omega) ⟨rfl, Nat.le_refl _, rfl⟩ _) ?_; rintro _ J2 _ e2 ⟨B, c, rfl, hB, rfl⟩; refine Oa rfl (Oa rfl (Aa ?_))
 have hll := Gq [] (e.occ [])
 have hol := e.occ_len []
 simp only [List.length_nil, Nat.zero_add] at hll
 have hnm : ∀ z ∈ Df [] (e.occ []), Bv z = true := fun z hz => Ex.occ_name hok z (by simpa [Jv] using hz)
 refine Ge hB rfl (by unfold Az; omega) (P9 hnm) ?_; intro J3 oz cz ez hbv hst; refine Kp (t := 2) rfl hbv ?_; refine Ad (.tmp rfl (.tmp rfl .nil)) ?_
 exact ⟨J3, L, (hleJ.trans e2).trans ez, Bf, oz, cz, by rw [Hd, he]; rfl, by rw [Hd, he]; exact hst, rfl⟩

theorem Lw (s : Ap) : (Bw s).isSome = ((Hd s).isSome && decide ((Hd s).getD [] = [])) := by
 unfold Bw Hd
 cases E5 s with
 | none => rfl
 | some e =>
  simp only [Option.map_some, Option.isSome_some, Option.getD_some, Bool.true_and]
  rw [← Ex.closed_free]
  cases e.closed <;> rfl
theorem Fz {s : Ap} {e : Ex} (h : Bw s = some e) : E5 s = some e ∧ e.closed = true := by
 unfold Bw at h
 cases hx : E5 s with
 | none => rw [hx] at h; cases h
 | some e' =>
  rw [hx] at h
  simp only at h
  split at h
  ·rename_i hc; cases h; exact ⟨rfl, hc⟩
  ·cases h
theorem Ka (s : Ap) (hs : s.length ≤ Iz) (I : Heap) (L : Bh) : Fun Tryz.prog 35 [.string (str s)] I L (D0 (.bool (Bw s).isSome) I L) := by
 refine Ag (by simp) ?_; refine Se rfl (Oa rfl (Aa (Se rfl (Om rfl ?_)))); refine Ca rfl (V9 s hs _ _) ?_; rintro _ J _ hleJ ⟨oa, c, rfl, hst, rfl⟩; refine Om rfl (Oe rfl rfl (Oe rfl rfl (Oa rfl (Oa rfl (Aa (Se rfl (Om rfl (Om rfl ?_))))))))
 apply Ci 11 15 rfl
 ·intro g2_2 hk
  try simp only [nb] at g2_2
  refine Ow rfl ?_; refine I6 rfl (.met rfl rfl) rfl ?_; refine Dh rfl rfl rfl (.met rfl rfl) rfl ?_; refine Ot rfl rfl ?_
  exact Ar 3 rfl rfl hk
 ·intro _ hk; refine A0 3 rfl ?_; refine Of rfl rfl ?_
  exact Ar 3 rfl rfl hk
 refine Oa rfl (Aa (Ad (.tmp rfl .nil) ?_)); refine G5 hleJ Bf ?_; rw [Lw]; refine congrArg Value.bool ?_; rw [Bool.eq_iff_iff]; simp
theorem X0 {I : Heap} {s : Ap} {t : Tree} {cs : List Value} {ok : Bool} (h : Rep I t cs) (hpf : match E5 s with | some e => ok = true ∧ t = e.tree | none => ok = false) (hok : ok = true) (L : Bh) :
  Fun Tryz.prog 62 [.agg cs.toArray] I L (SS ((Hd s).getD []) L) := by
 obtain ⟨e, he, rfl, h1, _⟩ := Pc hpf hok
 have hez := Q8 he
 rw [Hd, he]; exact Ng h h1 (by omega) L
theorem Gb (s : Ap) (hs : s.length ≤ Az) (I : Heap) (L : Bh) : Fun Tryz.prog 31 [.string (str s)] I L (RX (Bw s) L) := by
 refine Ag (by simp) ?_; refine Se rfl ?_; refine Aw .free rfl ?_; intro b2; refine Oa rfl (Aa (Se rfl (Om rfl ?_))); refine Ca rfl (V4 s hs _ _) ?_; rintro _ J _ hleJ ⟨t, cs, ok, rfl, hrep, rfl, hpf⟩; obtain ⟨oa, cc, vs, rfl, -⟩ := hrep.open; refine Om rfl (Oe rfl rfl (Oe rfl rfl ?_)); refine Aw .free rfl ?_; intro b4; refine Bn rfl rfl rfl rfl .free ?_; refine Oa rfl (Aa (Ab ?_)); refine Dp 10 rfl rfl ?_; refine Dt 0 [8] rfl (Cx rfl) ?_; refine Da 1 rfl (Ah rfl) ?_; refine Da 2 rfl (Ah rfl) ?_
 apply T0 13 18 rfl
 ·intro g2_3 hk
  try simp only [nb] at g2_3
  refine Gi 3 [4, 8] rfl (by kernel_rfl) rfl Ao (Cx rfl) (.met rfl rfl) rfl ?_; refine Jx 4 rfl (by kernel_rfl) rfl rfl (.met rfl rfl) rfl (X0 hrep hpf g2_3 _) ?_; rintro _ J2 _ e2 ⟨oz, cz, rfl, hst, rfl⟩; refine Hx ?_; refine Dm 5 rfl (Fq rfl) ?_; refine C3 (fun w h => Mem.le e2 h) ?_; refine Dm 6 rfl (O5 rfl rfl rfl) ?_; refine Da 7 rfl (E4 rfl rfl) ?_
  exact H2 4 rfl rfl hk
 ·intro _ hk; refine Ds 3 rfl rfl rfl ?_; refine Ds 4 rfl rfl rfl ?_; refine Ds 5 rfl rfl rfl ?_; refine Ds 6 rfl rfl rfl ?_; refine Da 7 rfl (Ep rfl rfl) ?_
  exact H2 4 rfl rfl hk
 refine Dx 8 rfl rfl rfl rfl ?_; refine Db 9 rfl (A2 rfl) ?_; refine At (by kernel_rfl) ?_; refine Ad (.c rfl (.tmp rfl .nil)) ?_; refine ⟨J, L, hleJ, Bf, t, _, _, rfl, hrep, rfl, ?_⟩
 have hcf := Lw s
 cases hc : Bw s with
 | some e =>
  obtain ⟨he, hcl⟩ := Fz hc; rw [he] at hpf; rw [hc] at hcf
  simp only [Option.isSome_some, Bool.true_eq, Bool.and_eq_true, decide_eq_true_eq] at hcf
  exact ⟨by rw [hpf.1, hcf.2]; rfl, hpf.2⟩
 | none =>
  rw [hc] at hcf
  cases ok with
  | false => rfl
  | true =>
   obtain ⟨e, he, _⟩ := Pc hpf rfl
   simp only [Hd, he, Option.map_some, Option.isSome_some, Option.isSome_none, Option.getD_some, Bool.true_and] at hcf ⊢
   have h1 : e.free ≠ [] := by simpa using hcf.symm
   have h2 := List.length_pos_iff.2 h1
   exact decide_eq_false (by omega)
theorem So (s : Ap) (hs : s.length ≤ Az) (I : Heap) (L : Bh) : Fun Tryz.prog 13 [.string (str s)] I L (D0 (.bool (Bw s).isSome) I L) := by
 refine Ag (by simp) ?_; refine Se rfl (Oa rfl (Aa (Se rfl (Om rfl ?_)))); refine Ca rfl (Gb s hs _ _) ?_; rintro _ J _ hleJ ⟨t, cs, ok, rfl, hrep, rfl, hpf⟩; obtain ⟨oa, cc, vs, rfl, -⟩ := hrep.open; refine Om rfl (Oe rfl rfl (Oe rfl rfl ?_)); refine Aw .free rfl ?_; intro b3; refine Bn rfl rfl rfl rfl .free ?_; refine Oa rfl (Aa (Se rfl (Om rfl (Oa rfl (Aa (Ad (.tmp rfl .nil) ?_)))))); refine G5 hleJ Bf ?_; refine congrArg Value.bool ?_
 cases hp : Bw s with
 | none => rw [hp] at hpf; exact hpf
 | some e => rw [hp] at hpf; exact hpf.1
end Go.Proofs.YtfddjcmeejjhiaaGreatDoor
