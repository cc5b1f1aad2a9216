/- Types of expressions: they are small; their texts. No conditions. -/
import Derived.Test.YtfddjcmeejjhiaaGreatDoorG6
namespace Go.Proofs.YtfddjcmeejjhiaaGreatDoor
set_option maxRecDepth 100000
set_option linter.unusedVariables false
set_option linter.unusedSimpArgs false

def smallL (m : List Ty) : Prop := ∀ t ∈ m, t.size ≤ 16
theorem smallL.add {m : List Ty} {t : Ty} (h : smallL m) (ht : t.size ≤ 16) : smallL (m ++ [t]) := by
 intro u hu
 rcases List.mem_append.1 hu with h1 | h1
 ·exact h u h1
 ·obtain rfl := List.mem_singleton.1 h1; exact ht
/- Texts of types; the empty text for none. -/
def tyT : Option Ty → Txt
 | some t => t.tree.text
 | none => []
theorem Ty.text_len {t : Ty} (h : t.size ≤ 16) : t.tree.text.length ≤ 80 := by
 have := t.tree_small; rw [Tree.text_len]; omega
def smallO (o : Option Ty) : Prop := ∀ t, o = some t → t.size ≤ 16
def smallS (ks : List (Option Ty)) : Prop := ∀ o ∈ ks, smallO o
/-- What the reference makes of the types of the parts. -/
def joinTy (h : Txt) : List (Option Ty) → Option Ty
 | [some a] => (U2.of h).bind fun o => o.ty a
 | [some a, some b] => (B5.of h).bind fun o => o.ty a b
 | [some a, some b, some c] => if a = .i ∧ b = c then some b else none
 | _ => none
theorem Ex.ty_bin (o : B5) (a b : Ex) (l : List Txt) (m : List Ty) : (Ex.bin o a b).ty l m = joinTy o.txt [a.ty l m, b.ty l m] := by
 simp only [Ex.ty, Ex.chk]
 cases a.chk l m with
 | error x => cases b.chk l m <;> rfl
 | ok s =>
  cases b.chk l m with
  | error y => rfl
  | ok t =>
   simp only [joinTy, B5.of_txt, Option.bind]
   cases o.ty s t <;> rfl
theorem Ex.ty_ite (a b c : Ex) (l : List Txt) (m : List Ty) : (Ex.ite a b c).ty l m = joinTy tIf [a.ty l m, b.ty l m, c.ty l m] := by
 simp only [Ex.ty, Ex.chk]
 cases a.chk l m with
 | error x => cases b.chk l m <;> cases c.chk l m <;> rfl
 | ok s =>
  cases b.chk l m with
  | error y => cases c.chk l m <;> rfl
  | ok t =>
   cases c.chk l m with
   | error y => rfl
   | ok u =>
    simp only [joinTy]
    by_cases h : s = .i ∧ t = u <;> simp [h]
theorem Ex.ty_un (o : U2) (a : Ex) (l : List Txt) (m : List Ty) : (Ex.un o a).ty l m = joinTy o.txt [a.ty l m] := by
 simp only [Ex.ty, Ex.chk]
 cases a.chk l m with
 | error x => rfl
 | ok s =>
  simp only [joinTy, U2.of_txt, Option.bind]
  cases o.ty s <;> rfl
theorem Ex.ty_lt (x : Txt) (a b : Ex) (l : List Txt) (m : List Ty) : (Ex.lt x a b).ty l m = match a.ty l m with | some s => b.ty (l ++ [x]) (m ++ [s]) | none => none := by
 simp only [Ex.ty, Ex.chk]
 cases a.chk l m <;> rfl
theorem Ex.ty_fn (f x : Txt) (s t : Ty) (b : Ex) (l : List Txt) (m : List Ty) : (Ex.fn f x s t b).ty l m = if (Ty.fn s t).size ≤ 16 ∧ b.ty (l ++ [f, x]) (m ++ [.fn s t, s]) = some t then some (.fn s t) else none := by
 simp only [Ex.ty, Ex.chk]
 by_cases h : (Ty.fn s t).size ≤ 16
 ·simp only [h, if_true, true_and]
  cases b.chk (l ++ [f, x]) (m ++ [.fn s t, s]) with
  | error x => simp
  | ok u => by_cases hu : u = t <;> simp [hu]
 ·simp [h]
theorem Ex.ty_name (s : Txt) (l : List Txt) (m : List Ty) : (Ex.name s).ty l m = tyLook l m s := by
 simp only [Ex.ty, Ex.chk]
 cases tyLook l m s <;> rfl
def tyOf (s : Txt) : Option Ty := (typeOf s).bind Tree.ty
def tysOf (m : List Txt) : List Ty := m.map fun s => (tyOf s).getD .i
/-- What 'ExprType' returns. -/
def exTy (l m : List Txt) (s : Txt) : Option Txt := if isEnv l m = true then (exOf s).bind fun e => (e.ty l (tysOf m)).map fun t => t.tree.text else none
def Ex.sub : Ex → List Ex
 | .num _ => []
 | .name _ => []
 | .bin _ a b => [a, b]
 | .ite a b c => [a, b, c]
 | .lt _ a b => [a, b]
 | .fn _ _ _ _ b => [b]
 | .un _ a => [a]
/- Environments of parts. -/
def Ex.inL (e : Ex) (i : Nat) (l : List Txt) : List Txt := match e with
 | .lt x _ _ => if i = 3 then l ++ [x] else l
 | .fn f x _ _ _ => l ++ [f] ++ [x]
 | _ => l
def Ex.inM (e : Ex) (i : Nat) (s0 : Ty) (m : List Ty) : List Ty := match e with
 | .lt _ _ _ => if i = 3 then m ++ [s0] else m
 | .fn _ _ s t _ => m ++ [.fn s t] ++ [s]
 | _ => m
/-- The type by those of the parts, however great. -/
def Ex.raw (e : Ex) (ts : List Ty) (l : List Txt) (m : List Ty) : Option Ty := match e, ts with
 | .num _, _ => some .i
 | .name s, _ => tyLook l m s
 | .bin .pair _ _, [a, b] => some (.pr a b)
 | .bin o _ _, [a, b] => o.ty a b
 | .ite _ _ _, [a, b, c] => if a = .i ∧ b = c then some b else none
 | .lt _ _ _, [_, b] => some b
 | .fn _ _ s t _, [b] => if b = t then some (.fn s t) else none
 | .un o _, [a] => o.ty a
 | _, _ => none
def Ex.fin (e : Ex) (r : Option Ty) : Except Ex Ty := match r with
 | some t => if t.size ≤ 16 then .ok t else .error e
 | none => .error e
/-- The types of the parts, one after the other. -/
def Ex.run (e : Ex) (l : List Txt) (m : List Ty) : List Ex → List Nat → List Ty → Except Ex (List Ty)
 | a :: more, k :: ks, ts => match a.chk (e.inL k l) (e.inM k (ts.getD 0 .i) m) with
  | .ok t => e.run l m more ks (ts ++ [t])
  | .error x => .error x
 | _, _, ts => .ok ts
def Ex.runs (e : Ex) (l : List Txt) (m : List Ty) : Except Ex (List Ty) := e.run l m e.sub (kids e.tree) []
def Ex.funOk : Ex → Bool
 | .fn _ _ s t _ => decide ((Ty.fn s t).size ≤ 16)
 | _ => true
/-- The names that are bound in a part. -/
def Ex.binds : Ex → Nat → List Txt
 | .lt x _ _, i => if i = 3 then [x] else []
 | .fn f x _ _ _, i => if i = 5 then [f, x] else []
 | _, _ => []
theorem Ex.shapes (e : Ex) (h : e.bare = false) : (∃ o a b, e = .bin o a b) ∨ (∃ a b c, e = .ite a b c) ∨ (∃ x a b, e = .lt x a b) ∨ (∃ f x s t b, e = .fn f x s t b) ∨ (∃ o a, e = .un o a) := by
 cases e with
 | num s => cases h
 | name s => cases h
 | bin o a b => exact .inl ⟨o, a, b, rfl⟩
 | ite a b c => exact .inr (.inl ⟨a, b, c, rfl⟩)
 | lt x a b => exact .inr (.inr (.inl ⟨x, a, b, rfl⟩))
 | fn f x s t b => exact .inr (.inr (.inr (.inl ⟨f, x, s, t, b, rfl⟩)))
 | un o a => exact .inr (.inr (.inr (.inr ⟨o, a, rfl⟩)))
def lbl : List Txt → Bool := fun l => l.all fun s => decide (s.length ≤ maxN)
theorem strs_lit1 {I : Heap} {b : Nat} {x : Txt} {e : TypeId} (hle : HLe I (I.set b (.cells [.string (str x)].toArray e (0, 0)))) (hx : x.length ≤ maxN) : Strs (I.set b (.cells [.string (str x)].toArray e (0, 0))) (some ⟨b, 0, none⟩) [x] 1 :=
 ⟨fun y hy => by cases hy; exact still_set (xs := [x].map sv) (ys := []), by simp, by simp, by simp [maxN], by simpa using hx⟩
theorem strs_lit2 {I : Heap} {b : Nat} {x y : Txt} {e : TypeId} (hle : HLe I (I.set b (.cells [.string (str x), .string (str y)].toArray e (0, 0)))) (hx : x.length ≤ maxN) (hy : y.length ≤ maxN) : Strs (I.set b (.cells [.string (str x), .string (str y)].toArray e (0, 0))) (some ⟨b, 0, none⟩) [x, y] 2 :=
 ⟨fun z hz => by cases hz; exact still_set (xs := [x, y].map sv) (ys := []), by simp, by simp, by simp [maxN], by simpa using ⟨hx, hy⟩⟩
theorem strs_nil (I : Heap) : Strs I none [] 0 := ⟨by simp, by simp, by simp, by simp [maxN], by simp⟩
theorem Ex.name_len {x : Txt} (h : isName x = true) : x.length ≤ maxN := by have := isName_len h; unfold maxN; omega

theorem f_form_bound {I : Heap} {e : Ex} {cs : List Value} (h : Rep I e.tree cs) (hok : e.ok = true) (i : Nat) (L : Own) : Fun Tryz.prog 131 [.agg cs.toArray, .int .i64 (i : Nat)] I L (SS (e.binds i) L) := by
 obtain ⟨oa, c, oaf, cf, rfl, hf⟩ := h.at'
 refine fun_intro (by simp) ?_
 refine Se rfl ?_
 refine o_box rfl rfl .free rfl ?_
 intro b2
 refine Oa rfl (o_done (s_seq (s_block (Se rfl ?_))))
 refine o_lOS rfl .free rfl ?_
 refine o_call rfl .free rfl (f_form_head hf.rep _) ?_
 rintro _ _ _ _ ⟨rfl, rfl, rfl⟩
 refine Od rfl rfl rfl (Om rfl ?_)
 apply o_and 9 12 rfl
 ·intro g1_4 hk
  try simp only [nb] at g1_4
  refine Ow rfl ?_
  refine o_cmp rfl rfl rfl (.met rfl rfl) rfl ?_
  refine Ot rfl rfl ?_
  exact o_fin 2 rfl rfl hk
 ·intro _ hk
  refine o_skips 2 rfl ?_
  refine Of rfl rfl ?_
  exact o_fin 2 rfl rfl hk
 refine Oa rfl (o_done ?_)
 refine s_cond rfl ?_ ?_
 ·intro c0
  try simp only [nb] at c0
  obtain ⟨x, a, b, rfl⟩ := Ex.of_let c0.1
  obtain rfl : i = 3 := by omega
  simp only [Ex.ok, Bool.and_eq_true] at hok
  have hlen : (Ex.lt x a b).tree.parts.length = 4 := rfl
  have hx : ((Ex.lt x a b).tree.pt 1).atom.length ≤ maxN := Ex.name_len hok.1.1
  refine Se rfl (Oh rfl ?_)
  refine o_lO1 rfl .free rfl ?_
  first | refine o_ixD rfl rfl 1 rfl .free rfl ?_ | refine o_ixP rfl rfl 1 rfl .free rfl ?_
  refine o_fieldAddr' rfl .free rfl ?_
  refine o_lIF rfl .free rfl ?_
  refine Ol rfl rfl ?_
  intro b18
  refine Oa rfl (o_done ?_)
  refine s_freeze ?_
  intro hz
  refine s_ret (.tmp rfl .nil) ?_
  exact ⟨_, L, hz, drops, some ⟨b18, 0, none⟩, 1, rfl, strs_lit1 hz hx, rfl⟩
 intro c0
 try simp only [nb] at c0
 refine Se rfl ?_
 refine o_lOS rfl .free rfl ?_
 refine o_call rfl .free rfl (f_form_head hf.rep _) ?_
 rintro _ _ _ _ ⟨rfl, rfl, rfl⟩
 refine Od rfl rfl rfl (Om rfl ?_)
 apply o_and 23 26 rfl
 ·intro g3_4 hk
  try simp only [nb] at g3_4
  refine Ow rfl ?_
  refine o_cmp rfl rfl rfl (.met rfl rfl) rfl ?_
  refine Ot rfl rfl ?_
  exact o_fin 2 rfl rfl hk
 ·intro _ hk
  refine o_skips 2 rfl ?_
  refine Of rfl rfl ?_
  exact o_fin 2 rfl rfl hk
 refine Oa rfl (o_done ?_)
 refine s_cond rfl ?_ ?_
 ·intro c1
  try simp only [nb] at c1
  obtain ⟨f, x, s, t, b, rfl⟩ := Ex.of_fun c1.1
  obtain rfl : i = 5 := by omega
  simp only [Ex.ok, Bool.and_eq_true] at hok
  have hlen : (Ex.fn f x s t b).tree.parts.length = 6 := rfl
  have hx1 : ((Ex.fn f x s t b).tree.pt 1).atom.length ≤ maxN := Ex.name_len hok.1.1.1.1.1
  have hx2 : ((Ex.fn f x s t b).tree.pt 2).atom.length ≤ maxN := Ex.name_len hok.1.1.1.1.2
  refine s_seq ?_
  refine d_all 12 rfl rfl ?_
  refine Da 0 rfl (y_fieldAddr rfl) ?_
  refine Dt 1 [12] rfl (y_lO1 rfl) ?_
  first | refine Da 2 rfl (y_ixD rfl rfl 1 rfl) ?_ | refine Da 2 rfl (y_ixP rfl rfl 1 rfl) ?_
  refine Da 3 rfl (y_fieldAddr' rfl) ?_
  refine Dt 4 [12] rfl (y_lIF rfl) ?_
  refine Da 5 rfl (y_fieldAddr rfl) ?_
  refine Dt 6 [12] rfl (y_lO1 rfl) ?_
  first | refine Da 7 rfl (y_ixD rfl rfl 2 rfl) ?_ | refine Da 7 rfl (y_ixP rfl rfl 2 rfl) ?_
  refine Da 8 rfl (y_fieldAddr' rfl) ?_
  refine Dt 9 [12] rfl (y_lIF rfl) ?_
  refine d_lits 10 rfl (by kernel_rfl) rfl rfl rfl (by rfl) (by rfl) (by rfl) (by decide) (by decide) (by rfl) .free rfl (.inr heldx) ?_
  intro b37
  refine Da 11 rfl (y_assign rfl) ?_
  refine d_done (by kernel_rfl) ?_
  refine s_freeze ?_
  intro hz
  refine s_ret (.tmp rfl .nil) ?_
  exact ⟨_, L, hz, drops, some ⟨b37, 0, none⟩, 2, rfl, strs_lit2 hz hx1 hx2, rfl⟩
 intro c1
 try simp only [nb] at c1
 refine s_skip (s_inBlock (Se rfl (Oa rfl (o_done (s_ret (.tmp rfl .nil) ?_)))))
 have hb : e.binds i = [] := by
  cases e with
  | lt x a b => exact if_neg fun hi => by rcases c0 with h | h; exact h rfl; omega
  | fn f x s t b => exact if_neg fun hi => by rcases c1 with h | h; exact h rfl; omega
  | _ => rfl
 exact ⟨I, L, .refl _, drops, none, 0, by rw [hb]; rfl, by rw [hb]; exact strs_nil I, rfl⟩

theorem Ex.binds_le (e : Ex) (i : Nat) : (e.binds i).length ≤ 2 := by
 cases e with
 | lt x a b => simp only [Ex.binds]; split <;> simp
 | fn f x s t b => simp only [Ex.binds]; split <;> simp
 | _ => simp [Ex.binds]
theorem Ex.binds_room {bd : List Txt} {e : Ex} {i k : Nat} (h : bd.length + 2 + k ≤ 4294967296) : (bd ++ e.binds i).length + k ≤ maxN := by
 have := e.binds_le i; rw [List.length_append]; unfold maxN; omega
theorem Ex.binds_room0 {bd : List Txt} {e : Ex} {i : Nat} (h : bd.length + 2 ≤ 4294967296) : bd.length + (e.binds i).length ≤ maxN := by
 have := e.binds_le i; unfold maxN; omega
/-- A function value that is told of texts: 'own x' is what it holds, 'R x seen' what that is by what it has been told. -/
structure Teller (P : Program) (kf : FuncId) (cap : List Value) (X : Type) (own : X → Own) (R : X → List Txt → Heap → Prop) : Prop where
 tell : ∀ x seen s I L, R x seen I → isName s = true → seen.length < 4294967296 → Fun P kf (.string (str s) :: cap) I (own x ++ L) (fun v I' L' => v = .tuple #[] ∧ ∃ y, R y (seen ++ [s]) I' ∧ L' = own y ++ L)
 mono : ∀ x seen I I', HLe I I' → R x seen I → R x seen I'
theorem Mem.w1 {I : Heap} {a : Nat × Obj} {X L : Own} {w : World} (h : Mem I (X ++ a :: L) w) : Mem I (a :: (X ++ L)) w := h.perm List.perm_middle
theorem Ex.size_pos (e : Ex) : 1 ≤ e.size := by cases e <;> simp [Ex.size] <;> omega
theorem Ex.occ_len : ∀ (e : Ex) (bd : List Txt), (e.occ bd).length ≤ e.size
 | .num s, bd => Nat.zero_le _
 | .name s, bd => by simp only [Ex.occ]; split <;> simp [Ex.size]
 | .bin o a b, bd => by have := a.occ_len bd; have := b.occ_len bd; simp [Ex.occ, Ex.size]; omega
 | .ite a b c, bd => by have := a.occ_len bd; have := b.occ_len bd; have := c.occ_len bd; simp [Ex.occ, Ex.size]; omega
 | .lt x a b, bd => by have := a.occ_len bd; have := b.occ_len (bd ++ [x]); simp [Ex.occ, Ex.size]; omega
 | .fn f x s t b, bd => by have := b.occ_len (bd ++ [f, x]); simp [Ex.occ, Ex.size]; omega
 | .un o a, bd => by have := a.occ_len bd; simp [Ex.occ, Ex.size]; omega
theorem Ex.occ_room {seen bd : List Txt} {e : Ex} {k n : Nat} (h : seen.length + (e.size + k) ≤ n) : (seen ++ e.occ bd).length + k ≤ n := by
 have := e.occ_len bd; rw [List.length_append]; omega
theorem Ex.occ_room2 {seen bd bd' : List Txt} {e e' : Ex} {k n : Nat} (h : seen.length + (e.size + (e'.size + k)) ≤ n) : (seen ++ e.occ bd ++ e'.occ bd').length + k ≤ n := Ex.occ_room (Ex.occ_room h)
def TP {X : Type} (own : X → Own) (R : X → List Txt → Heap → Prop) (seen : List Txt) (L : Own) : Post := fun v I' L' => v = .tuple #[] ∧ ∃ y, R y seen I' ∧ L' = own y ++ L
theorem f_form_free {kf : FuncId} {cap : List Value} {X : Type} {own : X → Own} {R : X → List Txt → Heap → Prop} {c0 : Code} {m0' : Nat} {rs0 : List ResultVar} [hfi : FnIs Tryz.prog kf c0 m0' rs0] (T : Teller Tryz.prog kf cap X own R) :
    ∀ (n : Nat) {I : Heap} {e : Ex} {cs : List Value} (_ : SizeOf.sizeOf e < n) (_ : Rep I e.tree cs) (_ : e.ok = true) {bd : List Txt} {ob : Option Addr} {cb : Nat} (_ : Strs I ob bd cb) (_ : bd.length + 2 * e.size ≤ maxN) (x : X) (seen : List Txt) (_ : seen.length + e.size ≤ 4294967296) (_ : R x seen I) (L : Own),
    Fun Tryz.prog 105 [.agg cs.toArray, .slice ob bd.length cb, .func (.func kf) #[] cap.toArray] I (own x ++ L) (TP own R (seen ++ e.occ bd) L) := by
  intro n
  induction n with
  | zero => intro I e cs h; omega
  | succ n ihn =>
    intro I e cs hlt h hok bd ob cb hbd hbl x seen hsl hx L
    obtain ⟨oa, c, oaf, cf, rfl, hf⟩ := h.at'
    have ha := hf.alen
    unfold maxN at hbl
    refine fun_intro (by simp) ?_
    refine Se rfl ?_
    refine o_box rfl rfl .free rfl ?_
    intro b3
    refine o_done (s_seq (Se rfl ?_))
    refine o_lOS rfl .free rfl ?_
    refine o_call rfl .free rfl (f_form_isAtom hf.rep _) ?_
    rintro _ _ _ _ ⟨rfl, rfl, rfl⟩
    refine o_done ?_
    refine s_cond rfl ?_ ?_
    · intro c0
      try simp only [nb] at c0
      have hb : e.bare = true := by rw [Ex.bare_parts]; exact c0
      refine s_seq (Se rfl (Oh rfl ?_))
      refine o_lO1 rfl .free rfl ?_
      refine o_call rfl .free rfl (f_isName e.tree.atom ha _ _) ?_
      rintro _ _ _ _ ⟨rfl, rfl, rfl⟩
      refine Om rfl ?_
      apply o_and 13 19 rfl
      · intro g2_4 hk
        try simp only [nb] at g2_4
        refine Ow rfl ?_
        refine o_fieldAddr rfl (.met rfl rfl) rfl ?_
        refine o_lO1 rfl (.met rfl rfl) rfl ?_
        refine o_call rfl (.met rfl rfl) rfl (f_slices_Contains (hbd.rd _) cb e.tree.atom) ?_
        rintro _ _ _ _ ⟨rfl, rfl, rfl⟩
        refine o_not rfl (.met rfl rfl) rfl ?_
        refine Ot rfl rfl ?_
        exact o_fin 5 rfl rfl hk
      · intro _ hk
        refine o_skips 5 rfl ?_
        refine Of rfl rfl ?_
        exact o_fin 5 rfl rfl hk
      refine o_done ?_
      refine s_cond rfl ?_ ?_
      · intro c1
        try simp only [nb] at c1
        have hnm := c1.1
        have hem : e = .name e.tree.atom := by
          cases e with
          | num s => have h1 : isNum s = true := hok; have h2 := name_not_num hnm; rw [show (Ex.num s).tree.atom = s from rfl, h1] at h2; cases h2
          | name s => rfl
          | _ => cases hb
        have hoc : e.occ bd = [e.tree.atom] := by
          have h2 := c1.2
          rw [hem]; simp only [Ex.occ]
          rw [if_neg (by simpa using h2)]
          rfl
        refine o_enter rfl (Om rfl (Oh rfl ?_))
        refine o_lO1 rfl .free rfl ?_
        refine o_mem (fun w h => h.u1) ?_
        refine o_callv rfl rfl .free rfl (T.tell x seen e.tree.atom _ _ hx hnm (by have := e.size_pos; omega)) ?_
        rintro _ J _ e1 ⟨rfl, y, hy, rfl⟩
        refine o_done ?_
        refine s_ret .nil ?_
        first
          | exact ⟨J, _, e1, fun w h => h.w1.drop, rfl, y, by rw [hoc]; exact hy, rfl⟩
          | (have hoc : e.occ bd = [] := by
               cases e with
               | num s => rfl
               | name s =>
                 simp only [Ex.occ]
                 rw [if_pos]
                 rcases c1 with h | h
                 · rw [show (Ex.name s).tree.atom = s from rfl, show isName s = true from hok] at h; cases h
                 · exact h
               | _ => cases hb
             exact ⟨I, _, .refl _, fun w h => h.drop, rfl, x, by rw [hoc, List.append_nil]; exact hx, rfl⟩)
      intro c1
      try simp only [nb] at c1
      refine s_skip ?_
      refine s_ret .nil ?_
      first
        | exact ⟨J, _, e1, fun w h => h.w1.drop, rfl, y, by rw [hoc]; exact hy, rfl⟩
        | (have hoc : e.occ bd = [] := by
             cases e with
             | num s => rfl
             | name s =>
               simp only [Ex.occ]
               rw [if_pos]
               rcases c1 with h | h
               · rw [show (Ex.name s).tree.atom = s from rfl, show isName s = true from hok] at h; cases h
               · exact h
             | _ => cases hb
           exact ⟨I, _, .refl _, fun w h => h.drop, rfl, x, by rw [hoc, List.append_nil]; exact hx, rfl⟩)
    intro c0
    try simp only [nb] at c0
    have hb : e.bare = false := by rw [Ex.bare_parts]; exact c0
    have hsh := e.shapes hb
    refine s_skip (s_seq ?_)
    rcases hsh with ⟨o, a, b, rfl⟩ | ⟨a, b, d, rfl⟩ | ⟨z, a, b, rfl⟩ | ⟨g, z, s, t, b, rfl⟩ | ⟨o, a, rfl⟩
    · skip
      refine o_enter rfl ?_
      refine o_lOS rfl .free rfl ?_
      refine o_call rfl .free rfl (f_form_kids hf.rep _) ?_
      rintro _ J _ e0 ⟨ok, ck, rfl, hk, rfl⟩
      have hf := hf.mono e0
      have hbd := hbd.mono e0
      have hx := T.mono _ _ _ _ e0 hx
      have hle := e0
      have hok0 := hok
      simp only [Ex.ok, Bool.and_eq_true] at hok
      rw [kids_bin] at hk
      rw [kids_bin]
      have hlen : (Ex.bin o a b).tree.parts.length = 3 := rfl
      have hkl : [1, 2].length = 2 := rfl
      simp only [Ex.bin.sizeOf_spec] at hlt
      simp only [Ex.size] at hbl hsl
      refine On rfl (Om rfl (o_done (s_block ?_)))
      refine s_loop ?_
      refine Se rfl (Oc rfl rfl rfl (o_done (s_seq ?_)))
      refine s_condT rfl (by first | rfl | decide | (simp; done) | omega) ?_
      refine s_skip (s_seq (s_block (Se rfl ?_)))
      first | refine o_ixD rfl rfl _ rfl .free rfl ?_ | refine o_ixP rfl rfl _ rfl .free rfl ?_
      refine o_lI1 rfl .free rfl ?_
      refine Oa rfl (o_done ?_)
      refine d_x 13 rfl rfl ?_
      refine Da 0 rfl (y_fieldAddr rfl) ?_
      refine Dt 1 [13] rfl (y_lO1 rfl) ?_
      refine Da 2 rfl (y_move rfl) ?_
      first | refine Da 3 rfl (y_ixD rfl rfl _ rfl) ?_ | refine Da 3 rfl (y_ixP rfl rfl _ rfl) ?_
      refine Dt 4 [13] rfl (y_lIS rfl) ?_
      refine Da 5 rfl (y_move rfl) ?_
      refine Dt 6 [13] rfl (y_lOS rfl) ?_
      refine Da 7 rfl (y_move rfl) ?_
      refine Da 11 rfl (y_move rfl) ?_
      refine d_call 8 rfl (by kernel_rfl) rfl rfl .free rfl (f_form_bound hf.rep hok0 _ _) ?_
      rintro _ J1 _ e1 ⟨o1, k1, rfl, hs1, rfl⟩
      refine ⟨(.inr heldx), ?_⟩
      refine d_lits 9 rfl (by kernel_rfl) rfl rfl rfl (by rfl) (by rfl) (by rfl) (by decide) (by decide) (by rfl) .free rfl (.inr heldx) ?_
      intro b40
      refine d_freeze ?_
      intro hz
      have e2 := e1.trans hz
      refine d_call 10 rfl (by kernel_rfl) rfl rfl .free rfl (f_slices_Concat (still_set (xs := [.slice ob bd.length cb, .slice o1 (List.length _) k1]) (ys := [])) (hbd.mono e2) (hs1.mono hz) (Ex.binds_room0 (by omega)) _) ?_
      rintro _ J3 _ e3 ⟨o3, k3, rfl, hs3, rfl⟩
      have e4 := e2.trans e3
      have hf3 := hf.mono e4
      have hx3 := T.mono _ _ _ _ e4 hx
      refine ⟨(.inr heldx), ?_⟩
      refine d_mem (fun w h => h.u1) ?_
      refine d_call 12 rfl (by kernel_rfl) rfl rfl .free rfl (ihn (by omega) (hf3.as 1 a.tree (by omega) rfl) hok.1 hs3 (Ex.binds_room (by omega)) _ _ (by omega) hx3 _) ?_
      rintro _ J4 _ e5 ⟨rfl, x, hx, rfl⟩
      have e6 := e4.trans e5
      refine ⟨(.inr heldx), ?_⟩
      refine d_mem (fun w h => h.w1) ?_
      have hf := hf.mono e6
      have hbd := hbd.mono e6
      have hle := hle.trans e6
      have hk := hk.mono e6
      refine d_done (by kernel_rfl) ?_
      refine s_inBlock (o_enter rfl ?_)
      refine Or rfl rfl rfl ?_
      refine Om rfl (o_done ?_)
      refine s_round ?_
      refine Se rfl (Oc rfl rfl rfl (o_done (s_seq ?_)))
      refine s_condT rfl (by first | rfl | decide | (simp; done) | omega) ?_
      refine s_skip (s_seq (s_block (Se rfl ?_)))
      first | refine o_ixD rfl rfl _ rfl .free rfl ?_ | refine o_ixP rfl rfl _ rfl .free rfl ?_
      refine o_lI1 rfl .free rfl ?_
      refine Oa rfl (o_done ?_)
      refine d_x 13 rfl rfl ?_
      refine Da 0 rfl (y_fieldAddr rfl) ?_
      refine Dt 1 [13] rfl (y_lO1 rfl) ?_
      refine Da 2 rfl (y_move rfl) ?_
      first | refine Da 3 rfl (y_ixD rfl rfl _ rfl) ?_ | refine Da 3 rfl (y_ixP rfl rfl _ rfl) ?_
      refine Dt 4 [13] rfl (y_lIS rfl) ?_
      refine Da 5 rfl (y_move rfl) ?_
      refine Dt 6 [13] rfl (y_lOS rfl) ?_
      refine Da 7 rfl (y_move rfl) ?_
      refine Da 11 rfl (y_move rfl) ?_
      refine d_call 8 rfl (by kernel_rfl) rfl rfl .free rfl (f_form_bound hf.rep hok0 _ _) ?_
      rintro _ J1 _ e1 ⟨o1, k1, rfl, hs1, rfl⟩
      refine ⟨(.inr heldx), ?_⟩
      refine d_lits 9 rfl (by kernel_rfl) rfl rfl rfl (by rfl) (by rfl) (by rfl) (by decide) (by decide) (by rfl) .free rfl (.inr heldx) ?_
      intro b40
      refine d_freeze ?_
      intro hz
      have e2 := e1.trans hz
      refine d_call 10 rfl (by kernel_rfl) rfl rfl .free rfl (f_slices_Concat (still_set (xs := [.slice ob bd.length cb, .slice o1 (List.length _) k1]) (ys := [])) (hbd.mono e2) (hs1.mono hz) (Ex.binds_room0 (by omega)) _) ?_
      rintro _ J3 _ e3 ⟨o3, k3, rfl, hs3, rfl⟩
      have e4 := e2.trans e3
      have hf3 := hf.mono e4
      have hx3 := T.mono _ _ _ _ e4 hx
      refine ⟨(.inr heldx), ?_⟩
      refine d_mem (fun w h => h.u1) ?_
      refine d_call 12 rfl (by kernel_rfl) rfl rfl .free rfl (ihn (by omega) (hf3.as 2 b.tree (by omega) rfl) hok.2 hs3 (Ex.binds_room (by omega)) _ _ (Ex.occ_room (by omega)) hx3 _) ?_
      rintro _ J4 _ e5 ⟨rfl, x, hx, rfl⟩
      have e6 := e4.trans e5
      refine ⟨(.inr heldx), ?_⟩
      refine d_mem (fun w h => h.w1) ?_
      have hf := hf.mono e6
      have hbd := hbd.mono e6
      have hle := hle.trans e6
      have hk := hk.mono e6
      refine d_done (by kernel_rfl) ?_
      refine s_inBlock (o_enter rfl ?_)
      refine Or rfl rfl rfl ?_
      refine Om rfl (o_done ?_)
      refine s_round ?_
      refine Se rfl (Oc rfl rfl rfl (o_done (s_seq ?_)))
      refine s_condF rfl (by first | rfl | decide | (simp; done) | omega) ?_
      refine s_exit rfl ?_
      refine s_end .nil ?_
      exact ⟨_, _, hle, fun w h => h.drop, rfl, x, by simpa [Ex.occ, Ex.binds] using hx, rfl⟩
    · skip
      refine o_enter rfl ?_
      refine o_lOS rfl .free rfl ?_
      refine o_call rfl .free rfl (f_form_kids hf.rep _) ?_
      rintro _ J _ e0 ⟨ok, ck, rfl, hk, rfl⟩
      have hf := hf.mono e0
      have hbd := hbd.mono e0
      have hx := T.mono _ _ _ _ e0 hx
      have hle := e0
      have hok0 := hok
      simp only [Ex.ok, Bool.and_eq_true] at hok
      rw [kids_ite] at hk
      rw [kids_ite]
      have hlen : (Ex.ite a b d).tree.parts.length = 4 := rfl
      have hkl : [1, 2, 3].length = 3 := rfl
      simp only [Ex.ite.sizeOf_spec] at hlt
      simp only [Ex.size] at hbl hsl
      refine On rfl (Om rfl (o_done (s_block ?_)))
      refine s_loop ?_
      refine Se rfl (Oc rfl rfl rfl (o_done (s_seq ?_)))
      refine s_condT rfl (by first | rfl | decide | (simp; done) | omega) ?_
      refine s_skip (s_seq (s_block (Se rfl ?_)))
      first | refine o_ixD rfl rfl _ rfl .free rfl ?_ | refine o_ixP rfl rfl _ rfl .free rfl ?_
      refine o_lI1 rfl .free rfl ?_
      refine Oa rfl (o_done ?_)
      refine d_x 13 rfl rfl ?_
      refine Da 0 rfl (y_fieldAddr rfl) ?_
      refine Dt 1 [13] rfl (y_lO1 rfl) ?_
      refine Da 2 rfl (y_move rfl) ?_
      first | refine Da 3 rfl (y_ixD rfl rfl _ rfl) ?_ | refine Da 3 rfl (y_ixP rfl rfl _ rfl) ?_
      refine Dt 4 [13] rfl (y_lIS rfl) ?_
      refine Da 5 rfl (y_move rfl) ?_
      refine Dt 6 [13] rfl (y_lOS rfl) ?_
      refine Da 7 rfl (y_move rfl) ?_
      refine Da 11 rfl (y_move rfl) ?_
      refine d_call 8 rfl (by kernel_rfl) rfl rfl .free rfl (f_form_bound hf.rep hok0 _ _) ?_
      rintro _ J1 _ e1 ⟨o1, k1, rfl, hs1, rfl⟩
      refine ⟨(.inr heldx), ?_⟩
      refine d_lits 9 rfl (by kernel_rfl) rfl rfl rfl (by rfl) (by rfl) (by rfl) (by decide) (by decide) (by rfl) .free rfl (.inr heldx) ?_
      intro b40
      refine d_freeze ?_
      intro hz
      have e2 := e1.trans hz
      refine d_call 10 rfl (by kernel_rfl) rfl rfl .free rfl (f_slices_Concat (still_set (xs := [.slice ob bd.length cb, .slice o1 (List.length _) k1]) (ys := [])) (hbd.mono e2) (hs1.mono hz) (Ex.binds_room0 (by omega)) _) ?_
      rintro _ J3 _ e3 ⟨o3, k3, rfl, hs3, rfl⟩
      have e4 := e2.trans e3
      have hf3 := hf.mono e4
      have hx3 := T.mono _ _ _ _ e4 hx
      refine ⟨(.inr heldx), ?_⟩
      refine d_mem (fun w h => h.u1) ?_
      refine d_call 12 rfl (by kernel_rfl) rfl rfl .free rfl (ihn (by omega) (hf3.as 1 a.tree (by omega) rfl) hok.1.1 hs3 (Ex.binds_room (by omega)) _ _ (by omega) hx3 _) ?_
      rintro _ J4 _ e5 ⟨rfl, x, hx, rfl⟩
      have e6 := e4.trans e5
      refine ⟨(.inr heldx), ?_⟩
      refine d_mem (fun w h => h.w1) ?_
      have hf := hf.mono e6
      have hbd := hbd.mono e6
      have hle := hle.trans e6
      have hk := hk.mono e6
      refine d_done (by kernel_rfl) ?_
      refine s_inBlock (o_enter rfl ?_)
      refine Or rfl rfl rfl ?_
      refine Om rfl (o_done ?_)
      refine s_round ?_
      refine Se rfl (Oc rfl rfl rfl (o_done (s_seq ?_)))
      refine s_condT rfl (by first | rfl | decide | (simp; done) | omega) ?_
      refine s_skip (s_seq (s_block (Se rfl ?_)))
      first | refine o_ixD rfl rfl _ rfl .free rfl ?_ | refine o_ixP rfl rfl _ rfl .free rfl ?_
      refine o_lI1 rfl .free rfl ?_
      refine Oa rfl (o_done ?_)
      refine d_x 13 rfl rfl ?_
      refine Da 0 rfl (y_fieldAddr rfl) ?_
      refine Dt 1 [13] rfl (y_lO1 rfl) ?_
      refine Da 2 rfl (y_move rfl) ?_
      first | refine Da 3 rfl (y_ixD rfl rfl _ rfl) ?_ | refine Da 3 rfl (y_ixP rfl rfl _ rfl) ?_
      refine Dt 4 [13] rfl (y_lIS rfl) ?_
      refine Da 5 rfl (y_move rfl) ?_
      refine Dt 6 [13] rfl (y_lOS rfl) ?_
      refine Da 7 rfl (y_move rfl) ?_
      refine Da 11 rfl (y_move rfl) ?_
      refine d_call 8 rfl (by kernel_rfl) rfl rfl .free rfl (f_form_bound hf.rep hok0 _ _) ?_
      rintro _ J1 _ e1 ⟨o1, k1, rfl, hs1, rfl⟩
      refine ⟨(.inr heldx), ?_⟩
      refine d_lits 9 rfl (by kernel_rfl) rfl rfl rfl (by rfl) (by rfl) (by rfl) (by decide) (by decide) (by rfl) .free rfl (.inr heldx) ?_
      intro b40
      refine d_freeze ?_
      intro hz
      have e2 := e1.trans hz
      refine d_call 10 rfl (by kernel_rfl) rfl rfl .free rfl (f_slices_Concat (still_set (xs := [.slice ob bd.length cb, .slice o1 (List.length _) k1]) (ys := [])) (hbd.mono e2) (hs1.mono hz) (Ex.binds_room0 (by omega)) _) ?_
      rintro _ J3 _ e3 ⟨o3, k3, rfl, hs3, rfl⟩
      have e4 := e2.trans e3
      have hf3 := hf.mono e4
      have hx3 := T.mono _ _ _ _ e4 hx
      refine ⟨(.inr heldx), ?_⟩
      refine d_mem (fun w h => h.u1) ?_
      refine d_call 12 rfl (by kernel_rfl) rfl rfl .free rfl (ihn (by omega) (hf3.as 2 b.tree (by omega) rfl) hok.1.2 hs3 (Ex.binds_room (by omega)) _ _ (Ex.occ_room (by omega)) hx3 _) ?_
      rintro _ J4 _ e5 ⟨rfl, x, hx, rfl⟩
      have e6 := e4.trans e5
      refine ⟨(.inr heldx), ?_⟩
      refine d_mem (fun w h => h.w1) ?_
      have hf := hf.mono e6
      have hbd := hbd.mono e6
      have hle := hle.trans e6
      have hk := hk.mono e6
      refine d_done (by kernel_rfl) ?_
      refine s_inBlock (o_enter rfl ?_)
      refine Or rfl rfl rfl ?_
      refine Om rfl (o_done ?_)
      refine s_round ?_
      refine Se rfl (Oc rfl rfl rfl (o_done (s_seq ?_)))
      refine s_condT rfl (by first | rfl | decide | (simp; done) | omega) ?_
      refine s_skip (s_seq (s_block (Se rfl ?_)))
      first | refine o_ixD rfl rfl _ rfl .free rfl ?_ | refine o_ixP rfl rfl _ rfl .free rfl ?_
      refine o_lI1 rfl .free rfl ?_
      refine Oa rfl (o_done ?_)
      refine d_x 13 rfl rfl ?_
      refine Da 0 rfl (y_fieldAddr rfl) ?_
      refine Dt 1 [13] rfl (y_lO1 rfl) ?_
      refine Da 2 rfl (y_move rfl) ?_
      first | refine Da 3 rfl (y_ixD rfl rfl _ rfl) ?_ | refine Da 3 rfl (y_ixP rfl rfl _ rfl) ?_
      refine Dt 4 [13] rfl (y_lIS rfl) ?_
      refine Da 5 rfl (y_move rfl) ?_
      refine Dt 6 [13] rfl (y_lOS rfl) ?_
      refine Da 7 rfl (y_move rfl) ?_
      refine Da 11 rfl (y_move rfl) ?_
      refine d_call 8 rfl (by kernel_rfl) rfl rfl .free rfl (f_form_bound hf.rep hok0 _ _) ?_
      rintro _ J1 _ e1 ⟨o1, k1, rfl, hs1, rfl⟩
      refine ⟨(.inr heldx), ?_⟩
      refine d_lits 9 rfl (by kernel_rfl) rfl rfl rfl (by rfl) (by rfl) (by rfl) (by decide) (by decide) (by rfl) .free rfl (.inr heldx) ?_
      intro b40
      refine d_freeze ?_
      intro hz
      have e2 := e1.trans hz
      refine d_call 10 rfl (by kernel_rfl) rfl rfl .free rfl (f_slices_Concat (still_set (xs := [.slice ob bd.length cb, .slice o1 (List.length _) k1]) (ys := [])) (hbd.mono e2) (hs1.mono hz) (Ex.binds_room0 (by omega)) _) ?_
      rintro _ J3 _ e3 ⟨o3, k3, rfl, hs3, rfl⟩
      have e4 := e2.trans e3
      have hf3 := hf.mono e4
      have hx3 := T.mono _ _ _ _ e4 hx
      refine ⟨(.inr heldx), ?_⟩
      refine d_mem (fun w h => h.u1) ?_
      refine d_call 12 rfl (by kernel_rfl) rfl rfl .free rfl (ihn (by omega) (hf3.as 3 d.tree (by omega) rfl) hok.2 hs3 (Ex.binds_room (by omega)) _ _ (Ex.occ_room2 (by omega)) hx3 _) ?_
      rintro _ J4 _ e5 ⟨rfl, x, hx, rfl⟩
      have e6 := e4.trans e5
      refine ⟨(.inr heldx), ?_⟩
      refine d_mem (fun w h => h.w1) ?_
      have hf := hf.mono e6
      have hbd := hbd.mono e6
      have hle := hle.trans e6
      have hk := hk.mono e6
      refine d_done (by kernel_rfl) ?_
      refine s_inBlock (o_enter rfl ?_)
      refine Or rfl rfl rfl ?_
      refine Om rfl (o_done ?_)
      refine s_round ?_
      refine Se rfl (Oc rfl rfl rfl (o_done (s_seq ?_)))
      refine s_condF rfl (by first | rfl | decide | (simp; done) | omega) ?_
      refine s_exit rfl ?_
      refine s_end .nil ?_
      exact ⟨_, _, hle, fun w h => h.drop, rfl, x, by simpa [Ex.occ, Ex.binds] using hx, rfl⟩
    · skip
      refine o_enter rfl ?_
      refine o_lOS rfl .free rfl ?_
      refine o_call rfl .free rfl (f_form_kids hf.rep _) ?_
      rintro _ J _ e0 ⟨ok, ck, rfl, hk, rfl⟩
      have hf := hf.mono e0
      have hbd := hbd.mono e0
      have hx := T.mono _ _ _ _ e0 hx
      have hle := e0
      have hok0 := hok
      simp only [Ex.ok, Bool.and_eq_true] at hok
      rw [kids_lt'] at hk
      rw [kids_lt']
      have hlen : (Ex.lt z a b).tree.parts.length = 4 := rfl
      have hkl : [2, 3].length = 2 := rfl
      simp only [Ex.lt.sizeOf_spec] at hlt
      simp only [Ex.size] at hbl hsl
      refine On rfl (Om rfl (o_done (s_block ?_)))
      refine s_loop ?_
      refine Se rfl (Oc rfl rfl rfl (o_done (s_seq ?_)))
      refine s_condT rfl (by first | rfl | decide | (simp; done) | omega) ?_
      refine s_skip (s_seq (s_block (Se rfl ?_)))
      first | refine o_ixD rfl rfl _ rfl .free rfl ?_ | refine o_ixP rfl rfl _ rfl .free rfl ?_
      refine o_lI1 rfl .free rfl ?_
      refine Oa rfl (o_done ?_)
      refine d_x 13 rfl rfl ?_
      refine Da 0 rfl (y_fieldAddr rfl) ?_
      refine Dt 1 [13] rfl (y_lO1 rfl) ?_
      refine Da 2 rfl (y_move rfl) ?_
      first | refine Da 3 rfl (y_ixD rfl rfl _ rfl) ?_ | refine Da 3 rfl (y_ixP rfl rfl _ rfl) ?_
      refine Dt 4 [13] rfl (y_lIS rfl) ?_
      refine Da 5 rfl (y_move rfl) ?_
      refine Dt 6 [13] rfl (y_lOS rfl) ?_
      refine Da 7 rfl (y_move rfl) ?_
      refine Da 11 rfl (y_move rfl) ?_
      refine d_call 8 rfl (by kernel_rfl) rfl rfl .free rfl (f_form_bound hf.rep hok0 _ _) ?_
      rintro _ J1 _ e1 ⟨o1, k1, rfl, hs1, rfl⟩
      refine ⟨(.inr heldx), ?_⟩
      refine d_lits 9 rfl (by kernel_rfl) rfl rfl rfl (by rfl) (by rfl) (by rfl) (by decide) (by decide) (by rfl) .free rfl (.inr heldx) ?_
      intro b40
      refine d_freeze ?_
      intro hz
      have e2 := e1.trans hz
      refine d_call 10 rfl (by kernel_rfl) rfl rfl .free rfl (f_slices_Concat (still_set (xs := [.slice ob bd.length cb, .slice o1 (List.length _) k1]) (ys := [])) (hbd.mono e2) (hs1.mono hz) (Ex.binds_room0 (by omega)) _) ?_
      rintro _ J3 _ e3 ⟨o3, k3, rfl, hs3, rfl⟩
      have e4 := e2.trans e3
      have hf3 := hf.mono e4
      have hx3 := T.mono _ _ _ _ e4 hx
      refine ⟨(.inr heldx), ?_⟩
      refine d_mem (fun w h => h.u1) ?_
      refine d_call 12 rfl (by kernel_rfl) rfl rfl .free rfl (ihn (by omega) (hf3.as 2 a.tree (by omega) rfl) hok.1.2 hs3 (Ex.binds_room (by omega)) _ _ (by omega) hx3 _) ?_
      rintro _ J4 _ e5 ⟨rfl, x, hx, rfl⟩
      have e6 := e4.trans e5
      refine ⟨(.inr heldx), ?_⟩
      refine d_mem (fun w h => h.w1) ?_
      have hf := hf.mono e6
      have hbd := hbd.mono e6
      have hle := hle.trans e6
      have hk := hk.mono e6
      refine d_done (by kernel_rfl) ?_
      refine s_inBlock (o_enter rfl ?_)
      refine Or rfl rfl rfl ?_
      refine Om rfl (o_done ?_)
      refine s_round ?_
      refine Se rfl (Oc rfl rfl rfl (o_done (s_seq ?_)))
      refine s_condT rfl (by first | rfl | decide | (simp; done) | omega) ?_
      refine s_skip (s_seq (s_block (Se rfl ?_)))
      first | refine o_ixD rfl rfl _ rfl .free rfl ?_ | refine o_ixP rfl rfl _ rfl .free rfl ?_
      refine o_lI1 rfl .free rfl ?_
      refine Oa rfl (o_done ?_)
      refine d_x 13 rfl rfl ?_
      refine Da 0 rfl (y_fieldAddr rfl) ?_
      refine Dt 1 [13] rfl (y_lO1 rfl) ?_
      refine Da 2 rfl (y_move rfl) ?_
      first | refine Da 3 rfl (y_ixD rfl rfl _ rfl) ?_ | refine Da 3 rfl (y_ixP rfl rfl _ rfl) ?_
      refine Dt 4 [13] rfl (y_lIS rfl) ?_
      refine Da 5 rfl (y_move rfl) ?_
      refine Dt 6 [13] rfl (y_lOS rfl) ?_
      refine Da 7 rfl (y_move rfl) ?_
      refine Da 11 rfl (y_move rfl) ?_
      refine d_call 8 rfl (by kernel_rfl) rfl rfl .free rfl (f_form_bound hf.rep hok0 _ _) ?_
      rintro _ J1 _ e1 ⟨o1, k1, rfl, hs1, rfl⟩
      refine ⟨(.inr heldx), ?_⟩
      refine d_lits 9 rfl (by kernel_rfl) rfl rfl rfl (by rfl) (by rfl) (by rfl) (by decide) (by decide) (by rfl) .free rfl (.inr heldx) ?_
      intro b40
      refine d_freeze ?_
      intro hz
      have e2 := e1.trans hz
      refine d_call 10 rfl (by kernel_rfl) rfl rfl .free rfl (f_slices_Concat (still_set (xs := [.slice ob bd.length cb, .slice o1 (List.length _) k1]) (ys := [])) (hbd.mono e2) (hs1.mono hz) (Ex.binds_room0 (by omega)) _) ?_
      rintro _ J3 _ e3 ⟨o3, k3, rfl, hs3, rfl⟩
      have e4 := e2.trans e3
      have hf3 := hf.mono e4
      have hx3 := T.mono _ _ _ _ e4 hx
      refine ⟨(.inr heldx), ?_⟩
      refine d_mem (fun w h => h.u1) ?_
      refine d_call 12 rfl (by kernel_rfl) rfl rfl .free rfl (ihn (by omega) (hf3.as 3 b.tree (by omega) rfl) hok.2 hs3 (Ex.binds_room (by omega)) _ _ (Ex.occ_room (by omega)) hx3 _) ?_
      rintro _ J4 _ e5 ⟨rfl, x, hx, rfl⟩
      have e6 := e4.trans e5
      refine ⟨(.inr heldx), ?_⟩
      refine d_mem (fun w h => h.w1) ?_
      have hf := hf.mono e6
      have hbd := hbd.mono e6
      have hle := hle.trans e6
      have hk := hk.mono e6
      refine d_done (by kernel_rfl) ?_
      refine s_inBlock (o_enter rfl ?_)
      refine Or rfl rfl rfl ?_
      refine Om rfl (o_done ?_)
      refine s_round ?_
      refine Se rfl (Oc rfl rfl rfl (o_done (s_seq ?_)))
      refine s_condF rfl (by first | rfl | decide | (simp; done) | omega) ?_
      refine s_exit rfl ?_
      refine s_end .nil ?_
      exact ⟨_, _, hle, fun w h => h.drop, rfl, x, by simpa [Ex.occ, Ex.binds] using hx, rfl⟩
    · skip
      refine o_enter rfl ?_
      refine o_lOS rfl .free rfl ?_
      refine o_call rfl .free rfl (f_form_kids hf.rep _) ?_
      rintro _ J _ e0 ⟨ok, ck, rfl, hk, rfl⟩
      have hf := hf.mono e0
      have hbd := hbd.mono e0
      have hx := T.mono _ _ _ _ e0 hx
      have hle := e0
      have hok0 := hok
      simp only [Ex.ok, Bool.and_eq_true] at hok
      rw [kids_fn] at hk
      rw [kids_fn]
      have hlen : (Ex.fn g z s t b).tree.parts.length = 6 := rfl
      have hkl : [5].length = 1 := rfl
      simp only [Ex.fn.sizeOf_spec] at hlt
      simp only [Ex.size] at hbl hsl
      refine On rfl (Om rfl (o_done (s_block ?_)))
      refine s_loop ?_
      refine Se rfl (Oc rfl rfl rfl (o_done (s_seq ?_)))
      refine s_condT rfl (by first | rfl | decide | (simp; done) | omega) ?_
      refine s_skip (s_seq (s_block (Se rfl ?_)))
      first | refine o_ixD rfl rfl _ rfl .free rfl ?_ | refine o_ixP rfl rfl _ rfl .free rfl ?_
      refine o_lI1 rfl .free rfl ?_
      refine Oa rfl (o_done ?_)
      refine d_x 13 rfl rfl ?_
      refine Da 0 rfl (y_fieldAddr rfl) ?_
      refine Dt 1 [13] rfl (y_lO1 rfl) ?_
      refine Da 2 rfl (y_move rfl) ?_
      first | refine Da 3 rfl (y_ixD rfl rfl _ rfl) ?_ | refine Da 3 rfl (y_ixP rfl rfl _ rfl) ?_
      refine Dt 4 [13] rfl (y_lIS rfl) ?_
      refine Da 5 rfl (y_move rfl) ?_
      refine Dt 6 [13] rfl (y_lOS rfl) ?_
      refine Da 7 rfl (y_move rfl) ?_
      refine Da 11 rfl (y_move rfl) ?_
      refine d_call 8 rfl (by kernel_rfl) rfl rfl .free rfl (f_form_bound hf.rep hok0 _ _) ?_
      rintro _ J1 _ e1 ⟨o1, k1, rfl, hs1, rfl⟩
      refine ⟨(.inr heldx), ?_⟩
      refine d_lits 9 rfl (by kernel_rfl) rfl rfl rfl (by rfl) (by rfl) (by rfl) (by decide) (by decide) (by rfl) .free rfl (.inr heldx) ?_
      intro b40
      refine d_freeze ?_
      intro hz
      have e2 := e1.trans hz
      refine d_call 10 rfl (by kernel_rfl) rfl rfl .free rfl (f_slices_Concat (still_set (xs := [.slice ob bd.length cb, .slice o1 (List.length _) k1]) (ys := [])) (hbd.mono e2) (hs1.mono hz) (Ex.binds_room0 (by omega)) _) ?_
      rintro _ J3 _ e3 ⟨o3, k3, rfl, hs3, rfl⟩
      have e4 := e2.trans e3
      have hf3 := hf.mono e4
      have hx3 := T.mono _ _ _ _ e4 hx
      refine ⟨(.inr heldx), ?_⟩
      refine d_mem (fun w h => h.u1) ?_
      refine d_call 12 rfl (by kernel_rfl) rfl rfl .free rfl (ihn (by omega) (hf3.as 5 b.tree (by omega) rfl) hok.2 hs3 (Ex.binds_room (by omega)) _ _ (by omega) hx3 _) ?_
      rintro _ J4 _ e5 ⟨rfl, x, hx, rfl⟩
      have e6 := e4.trans e5
      refine ⟨(.inr heldx), ?_⟩
      refine d_mem (fun w h => h.w1) ?_
      have hf := hf.mono e6
      have hbd := hbd.mono e6
      have hle := hle.trans e6
      have hk := hk.mono e6
      refine d_done (by kernel_rfl) ?_
      refine s_inBlock (o_enter rfl ?_)
      refine Or rfl rfl rfl ?_
      refine Om rfl (o_done ?_)
      refine s_round ?_
      refine Se rfl (Oc rfl rfl rfl (o_done (s_seq ?_)))
      refine s_condF rfl (by first | rfl | decide | (simp; done) | omega) ?_
      refine s_exit rfl ?_
      refine s_end .nil ?_
      exact ⟨_, _, hle, fun w h => h.drop, rfl, x, by simpa [Ex.occ, Ex.binds] using hx, rfl⟩
    · skip
      refine o_enter rfl ?_
      refine o_lOS rfl .free rfl ?_
      refine o_call rfl .free rfl (f_form_kids hf.rep _) ?_
      rintro _ J _ e0 ⟨ok, ck, rfl, hk, rfl⟩
      have hf := hf.mono e0
      have hbd := hbd.mono e0
      have hx := T.mono _ _ _ _ e0 hx
      have hle := e0
      have hok0 := hok
      simp only [Ex.ok, Bool.and_eq_true] at hok
      rw [kids_un] at hk
      rw [kids_un]
      have hlen : (Ex.un o a).tree.parts.length = 2 := rfl
      have hkl : [1].length = 1 := rfl
      simp only [Ex.un.sizeOf_spec] at hlt
      simp only [Ex.size] at hbl hsl
      refine On rfl (Om rfl (o_done (s_block ?_)))
      refine s_loop ?_
      refine Se rfl (Oc rfl rfl rfl (o_done (s_seq ?_)))
      refine s_condT rfl (by first | rfl | decide | (simp; done) | omega) ?_
      refine s_skip (s_seq (s_block (Se rfl ?_)))
      first | refine o_ixD rfl rfl _ rfl .free rfl ?_ | refine o_ixP rfl rfl _ rfl .free rfl ?_
      refine o_lI1 rfl .free rfl ?_
      refine Oa rfl (o_done ?_)
      refine d_x 13 rfl rfl ?_
      refine Da 0 rfl (y_fieldAddr rfl) ?_
      refine Dt 1 [13] rfl (y_lO1 rfl) ?_
      refine Da 2 rfl (y_move rfl) ?_
      first | refine Da 3 rfl (y_ixD rfl rfl _ rfl) ?_ | refine Da 3 rfl (y_ixP rfl rfl _ rfl) ?_
      refine Dt 4 [13] rfl (y_lIS rfl) ?_
      refine Da 5 rfl (y_move rfl) ?_
      refine Dt 6 [13] rfl (y_lOS rfl) ?_
      refine Da 7 rfl (y_move rfl) ?_
      refine Da 11 rfl (y_move rfl) ?_
      refine d_call 8 rfl (by kernel_rfl) rfl rfl .free rfl (f_form_bound hf.rep hok0 _ _) ?_
      rintro _ J1 _ e1 ⟨o1, k1, rfl, hs1, rfl⟩
      refine ⟨(.inr heldx), ?_⟩
      refine d_lits 9 rfl (by kernel_rfl) rfl rfl rfl (by rfl) (by rfl) (by rfl) (by decide) (by decide) (by rfl) .free rfl (.inr heldx) ?_
      intro b40
      refine d_freeze ?_
      intro hz
      have e2 := e1.trans hz
      refine d_call 10 rfl (by kernel_rfl) rfl rfl .free rfl (f_slices_Concat (still_set (xs := [.slice ob bd.length cb, .slice o1 (List.length _) k1]) (ys := [])) (hbd.mono e2) (hs1.mono hz) (Ex.binds_room0 (by omega)) _) ?_
      rintro _ J3 _ e3 ⟨o3, k3, rfl, hs3, rfl⟩
      have e4 := e2.trans e3
      have hf3 := hf.mono e4
      have hx3 := T.mono _ _ _ _ e4 hx
      refine ⟨(.inr heldx), ?_⟩
      refine d_mem (fun w h => h.u1) ?_
      refine d_call 12 rfl (by kernel_rfl) rfl rfl .free rfl (ihn (by omega) (hf3.as 1 a.tree (by omega) rfl) hok hs3 (Ex.binds_room (by omega)) _ _ (by omega) hx3 _) ?_
      rintro _ J4 _ e5 ⟨rfl, x, hx, rfl⟩
      have e6 := e4.trans e5
      refine ⟨(.inr heldx), ?_⟩
      refine d_mem (fun w h => h.w1) ?_
      have hf := hf.mono e6
      have hbd := hbd.mono e6
      have hle := hle.trans e6
      have hk := hk.mono e6
      refine d_done (by kernel_rfl) ?_
      refine s_inBlock (o_enter rfl ?_)
      refine Or rfl rfl rfl ?_
      refine Om rfl (o_done ?_)
      refine s_round ?_
      refine Se rfl (Oc rfl rfl rfl (o_done (s_seq ?_)))
      refine s_condF rfl (by first | rfl | decide | (simp; done) | omega) ?_
      refine s_exit rfl ?_
      refine s_end .nil ?_
      exact ⟨_, _, hle, fun w h => h.drop, rfl, x, by simpa [Ex.occ, Ex.binds] using hx, rfl⟩

structure FB where
 l : List Txt
 B : Buf
 c : Nat
/-- The list that 'freeNames' gathers. -/
def FB.own (bo : Nat) (x : FB) : Own := (bo, .cells [bufVal x.l.length x.c x.B].toArray 27 (0, 0)) :: bufOwn 9 (x.l.map sv) x.B
def FB.is (x : FB) (seen : List Txt) (I : Heap) : Prop := x.l = addAll [] seen ∧ BufOk 1 x.l.length x.c (x.l.map sv) x.B ∧ ∀ s ∈ x.l, isName s = true
theorem addAll_len (l m : List Txt) : (addAll l m).length ≤ l.length + m.length := by
 induction m generalizing l with
 | nil => exact Nat.le_refl _
 | cons s m ih =>
  have h1 : (addOnce l s).length ≤ l.length + 1 := by unfold addOnce; split <;> simp
  have h2 := ih (addOnce l s)
  simp only [addAll, List.foldl_cons, List.length_cons] at *
  omega
theorem f_freeNames_1 (bo : Nat) (x : FB) (seen : List Txt) (s : Txt) (I : Heap) (L : Own) (hx : x.is seen I) (hs : isName s = true) (hl : seen.length < 4294967296) :
  Fun Tryz.prog 106 [.string (str s), .pointer (some ⟨bo, 0, none⟩)] I (FB.own bo x ++ L) (fun v I' L' => v = .tuple #[] ∧ ∃ y : FB, y.is (seen ++ [s]) I' ∧ L' = FB.own bo y ++ L) := by
 obtain ⟨l, B, c⟩ := x
 obtain ⟨hl1, hB, hn⟩ := hx
 simp only at hl1 hB hn
 have hll := addAll_len [] seen
 rw [← hl1] at hll
 simp only [List.length_nil, Nat.zero_add] at hll
 obtain ⟨oa, c', hbv, hrd⟩ := buf_rd (I := I) (L := L) (e := 9) hB rfl (by unfold maxN; omega)
 have hcon : Fun Tryz.prog 107 [bufVal l.length c B, .string (str s)] I ((bo, .cells [bufVal l.length c B].toArray 27 (0, 0)) :: (bufOwn 9 (l.map sv) B ++ L)) (Only (.bool (decide (s ∈ l))) I ((bo, .cells [bufVal l.length c B].toArray 27 (0, 0)) :: (bufOwn 9 (l.map sv) B ++ L))) := by
  have := f_slices_Contains (hrd.sub (L' := (bo, .cells [bufVal l.length c B].toArray 27 (0, 0)) :: (bufOwn 9 (l.map sv) B ++ L)) fun w h => h.drop) c' s
  rwa [← hbv] at this
 unfold FB.own
 simp only [List.cons_append]
 refine fun_intro (by simp) ?_
 refine Se rfl ?_
 refine o_load rfl (loads_own1 (cs := [bufVal l.length c B]) m0 (by rfl) (by cases B <;> rfl)) .free rfl ?_
 refine Om rfl ?_
 refine o_call rfl .free rfl hcon ?_
 rintro _ _ _ _ ⟨rfl, rfl, rfl⟩
 refine o_not rfl .free rfl ?_
 refine o_done ?_
 refine s_cond rfl ?_ ?_
 ·intro c0
  try simp only [nb] at c0
  have hadd : addAll [] (seen ++ [s]) = l ++ [s] := by rw [addAll_append, ← hl1]; simp [addAll, addOnce, c0]
  refine o_enter rfl ?_
  refine o_load rfl (loads_own1 (cs := [bufVal l.length c B]) m0 (by rfl) (by cases B <;> rfl)) .free rfl ?_
  refine Om rfl ?_
  refine Ol rfl rfl ?_
  intro b9
  refine o_append (B := B) (xs := l.map sv) (ys := [sv s]) (m := l.length) (c := c) (by intro kk; simp) (by rfl) rfl rfl hB (fun _ h => h.u2) (by rfl) (fun a ha => by cases ha; exact reads_ownL (.head _) (by rfl)) (by simp) (by rfl) (by decide) (by decide) (by omega) (by decide) .free rfl ?_
  intro bb sp c2 hB'
  refine o_store rfl rfl rfl rfl (by rfl) u2 (by rfl) .free ?_
  refine o_done ?_
  refine s_end .nil ?_
  first
   | exact ⟨I, _, .refl _, fun w h => h, rfl, ⟨l, B, c⟩, ⟨hadd.symm, hB, hn⟩, rfl⟩
   | exact ⟨I, _, .refl _, fun w h => Mem.sub (L' := (bo, _) :: (bb, _) :: L) (by repeat (first | exact List.Sublist.refl _ | apply List.Sublist.cons_cons | apply List.Sublist.cons)) h.f2, rfl, ⟨l ++ [s], some (bb, sp), c2⟩, ⟨hadd.symm, by simpa using hB', by intro z hz; rcases List.mem_append.1 hz with h | h; exact hn z h; rw [List.mem_singleton.1 h]; exact hs⟩, by simp [bufOwn, bufVal]⟩
 intro c0
 try simp only [nb] at c0
 have hadd : addAll [] (seen ++ [s]) = l := by rw [addAll_append, ← hl1]; simp [addAll, addOnce, c0]
 refine s_skip ?_
 refine s_end .nil ?_
 first
  | exact ⟨I, _, .refl _, fun w h => h, rfl, ⟨l, B, c⟩, ⟨hadd.symm, hB, hn⟩, rfl⟩
  | exact ⟨I, _, .refl _, fun w h => Mem.sub (L' := (bo, _) :: (bb, _) :: L) (by repeat (first | exact List.Sublist.refl _ | apply List.Sublist.cons_cons | apply List.Sublist.cons)) h.f2, rfl, ⟨l ++ [s], some (bb, sp), c2⟩, ⟨hadd.symm, by simpa using hB', by intro z hz; rcases List.mem_append.1 hz with h | h; exact hn z h; rw [List.mem_singleton.1 h]; exact hs⟩, by simp [bufOwn, bufVal]⟩
theorem freeNames_teller (bo : Nat) : Teller Tryz.prog 106 [.pointer (some ⟨bo, 0, none⟩)] FB (FB.own bo) FB.is :=
 ⟨fun x seen s I L hx hs hl => f_freeNames_1 bo x seen s I L hx hs hl, fun x seen I I' _ h => h⟩
theorem names_strs {l : List Txt} (h : ∀ s ∈ l, isName s = true) : ∀ s ∈ l, s.length ≤ maxN := fun s hs => Ex.name_len (h s hs)
theorem f_form_freeNames {I : Heap} {e : Ex} {cs : List Value} (h : Rep I e.tree cs) (hok : e.ok = true) (hz : 2 * e.size ≤ 4294967295) (L : Own) : Fun Tryz.prog 62 [.agg cs.toArray] I L (SS e.free L) := by
 obtain ⟨oa, c, oaf, cf, rfl, hf⟩ := h.at'
 have hT := fun bo => freeNames_teller bo
 refine fun_intro (by simp) ?_
 refine Se rfl ?_
 refine o_box rfl rfl .free rfl ?_
 intro b1
 refine Oa rfl (o_done (Se rfl ?_))
 refine o_alloc .free rfl ?_
 intro b3
 refine o_done (Se rfl ?_)
 refine o_lOS rfl .free rfl ?_
 refine o_makeFunc rfl rfl .free rfl ?_
 refine o_mem (L' := FB.own b3 ⟨[], none, 0⟩ ++ _) (fun w h => h) ?_
 refine o_call rfl .free rfl (f_form_free (hT b3) _ (Nat.lt_succ_self _) hf.rep hok (strs_nil I) (by unfold maxN; simp; omega) ⟨[], none, 0⟩ [] (by simp; omega) ⟨rfl, ⟨rfl, rfl, rfl⟩, by simp⟩ _) ?_
 rintro _ J _ e1 ⟨rfl, ⟨l, B, c2⟩, ⟨hl, hB, hn⟩, rfl⟩
 simp only at hl hB hn
 simp only [FB.own, List.cons_append]
 refine o_done (Se rfl ?_)
 refine o_load rfl (loads_own1 (cs := [bufVal l.length c2 B]) m0 (by rfl) (by cases B <;> rfl)) .free rfl ?_
 refine Oa rfl (o_done ?_)
 have hll := addAll_len [] (e.occ [])
 have hol := e.occ_len []
 simp only [List.nil_append] at hl
 rw [← hl] at hll
 simp only [List.length_nil, Nat.zero_add] at hll
 refine s_mem (fun w h => h.u1) (s_freezeStrs hB rfl (by unfold maxN; omega) (names_strs hn) ?_)
 intro J2 oz cz ez hbv hst
 refine s_put (t := 2) rfl hbv ?_
 refine s_ret (.tmp rfl .nil) ?_
 exact ⟨J2, L, e1.trans ez, fun w h => h.drop.drop, oz, cz, by rw [show e.free = l from hl.symm]; rfl, by rw [show e.free = l from hl.symm]; exact hst, rfl⟩
theorem d_freezeStrs {P : Program} {f : FuncId} {n : Nat} {I₀ : Heap} {Q : Post} {k : List Item} {ops : Array Oper} {S : World → Prop} {fuel : Nat} {listed : Array Bool} {E : Env} {I : Heap} {L : Own} {e : TypeId} {l : List Txt} {B : Buf} {m c : Nat}
  (hB : BufOk 1 m c (l.map sv) B) (hm : m = l.length) (hlen : l.length ≤ maxN) (hs : ∀ s ∈ l, s.length ≤ maxN)
  (h : ∀ I' oa c', HLe I I' → bufVal m c B = .slice oa l.length c' → Strs I' oa l c' → RunW P f n I₀ Q ops S fuel listed k E I' L) : RunW P f n I₀ Q ops S fuel listed k E I (bufOwn e (l.map sv) B ++ L) := by
 cases B with
 | none =>
  obtain ⟨h1, h2, h3⟩ := hB
  obtain rfl : l = [] := by simpa using h1
  exact h I .none 0 (.refl _) rfl ⟨by simp, by simp, by simp, hlen, hs⟩
 | some p =>
  obtain ⟨b, sp⟩ := p
  refine d_freeze fun hle => h _ (some ⟨b, 0, .none⟩) c hle (by rw [← hm]; rfl) ⟨fun y hy => ?_, by simp, by have := hB.2.1; omega, hlen, hs⟩
  cases hy; exact still_set
theorem Ex.binds_room1 {bd : List Txt} {e : Ex} {i : Nat} (h : bd.length + 2 ≤ 4294967296) : 0 + bd.length + (e.binds i).length ≤ 4294967296 := by
 have := e.binds_le i; omega
theorem strs_empty (I : Heap) (oa : Option Addr) : Strs I oa [] 0 := ⟨fun x _ => .inl rfl, fun _ => rfl, by simp, by simp [maxN], by simp⟩
theorem g_l2Binds {I : Heap} {e : Ex} {cs : List Value} (h : Rep I e.tree cs) (hok : e.ok = true) (hb : e.bare = false) (i : Nat) (hi : i ∈ kids e.tree) (L : Own) : Fun Tryz.prog 151 [.agg cs.toArray, .int .i64 (i : Nat)] I L (SS (e.binds i) L) := by
 obtain ⟨oa, c, oaf, cf, rfl, hf⟩ := h.at'
 have hg := (Ex.tree_good hok).1
 have h0 : 0 < e.tree.parts.length := by
  rw [Ex.bare_parts] at hb
  have : e.tree.parts ≠ [] := by intro hh; rw [hh] at hb; cases hb
  exact List.length_pos_iff.2 this
 have hhd := head_at h0
 refine fun_intro (by simp) ?_
 refine Se rfl ?_
 refine o_box rfl rfl .free rfl ?_
 intro b2
 refine Oa rfl (o_done (s_seq (s_block (Se rfl (Oh rfl ?_)))))
 refine o_lO1 rfl .free rfl ?_
 first | refine o_ixD rfl rfl 0 rfl .free rfl ?_ | refine o_ixP rfl rfl 0 rfl .free rfl ?_
 refine o_fieldAddr' rfl .free rfl ?_
 refine o_lIF rfl .free rfl ?_
 refine Od rfl rfl rfl (Om rfl ?_)
 apply o_and 12 15 rfl
 ·intro g1_7 hk
  try simp only [nb] at g1_7
  refine Ow rfl ?_
  refine o_cmp rfl rfl rfl (.met rfl rfl) rfl ?_
  refine Ot rfl rfl ?_
  exact o_fin 2 rfl rfl hk
 ·intro _ hk
  refine o_skips 2 rfl ?_
  refine Of rfl rfl ?_
  exact o_fin 2 rfl rfl hk
 refine Oa rfl (o_done ?_)
 refine s_cond rfl ?_ ?_
 ·intro c0
  try simp only [nb] at c0
  obtain ⟨x, a, b, rfl⟩ := Ex.of_let (hhd.trans c0.1)
  obtain rfl : i = 3 := by omega
  simp only [Ex.ok, Bool.and_eq_true] at hok
  have hlen : (Ex.lt x a b).tree.parts.length = 4 := rfl
  have hx : ((Ex.lt x a b).tree.pt 1).atom.length ≤ maxN := Ex.name_len hok.1.1
  refine Se rfl (Oh rfl ?_)
  refine o_lO1 rfl .free rfl ?_
  first | refine o_ixD rfl rfl 1 rfl .free rfl ?_ | refine o_ixP rfl rfl 1 rfl .free rfl ?_
  refine o_fieldAddr' rfl .free rfl ?_
  refine o_lIF rfl .free rfl ?_
  refine Ol rfl rfl ?_
  intro b21
  refine Oa rfl (o_done ?_)
  refine s_freeze ?_
  intro hz
  refine s_ret (.tmp rfl .nil) ?_
  exact ⟨_, L, hz, drops, some ⟨b21, 0, none⟩, 1, rfl, strs_lit1 hz hx, rfl⟩
 intro c0
 try simp only [nb] at c0
 refine Se rfl (Oh rfl ?_)
 refine o_lO1 rfl .free rfl ?_
 first | refine o_ixD rfl rfl 0 rfl .free rfl ?_ | refine o_ixP rfl rfl 0 rfl .free rfl ?_
 refine o_fieldAddr' rfl .free rfl ?_
 refine o_lIF rfl .free rfl ?_
 refine Od rfl rfl rfl (Oa rfl (o_done ?_))
 refine s_cond rfl ?_ ?_
 ·intro c1
  try simp only [nb] at c1
  obtain ⟨f, x, s, t, b, rfl⟩ := Ex.of_fun (hhd.trans c1)
  obtain rfl : i = 5 := by rw [kids_fn] at hi; simpa using hi
  simp only [Ex.ok, Bool.and_eq_true] at hok
  have hlen : (Ex.fn f x s t b).tree.parts.length = 6 := rfl
  have hx1 : ((Ex.fn f x s t b).tree.pt 1).atom.length ≤ maxN := Ex.name_len hok.1.1.1.1.1
  have hx2 : ((Ex.fn f x s t b).tree.pt 2).atom.length ≤ maxN := Ex.name_len hok.1.1.1.1.2
  refine s_seq ?_
  refine d_all 12 rfl rfl ?_
  refine Da 0 rfl (y_fieldAddr rfl) ?_
  refine Dt 1 [12] rfl (y_lO1 rfl) ?_
  first | refine Da 2 rfl (y_ixD rfl rfl 1 rfl) ?_ | refine Da 2 rfl (y_ixP rfl rfl 1 rfl) ?_
  refine Da 3 rfl (y_fieldAddr' rfl) ?_
  refine Dt 4 [12] rfl (y_lIF rfl) ?_
  refine Da 5 rfl (y_fieldAddr rfl) ?_
  refine Dt 6 [12] rfl (y_lO1 rfl) ?_
  first | refine Da 7 rfl (y_ixD rfl rfl 2 rfl) ?_ | refine Da 7 rfl (y_ixP rfl rfl 2 rfl) ?_
  refine Da 8 rfl (y_fieldAddr' rfl) ?_
  refine Dt 9 [12] rfl (y_lIF rfl) ?_
  refine d_lits 10 rfl (by kernel_rfl) rfl rfl rfl (by rfl) (by rfl) (by rfl) (by decide) (by decide) (by rfl) .free rfl (.inr heldx) ?_
  intro b39
  refine Da 11 rfl (y_assign rfl) ?_
  refine d_done (by kernel_rfl) ?_
  refine s_freeze ?_
  intro hz
  refine s_ret (.tmp rfl .nil) ?_
  exact ⟨_, L, hz, drops, some ⟨b39, 0, none⟩, 2, rfl, strs_lit2 hz hx1 hx2, rfl⟩
 intro c1
 try simp only [nb] at c1
 refine s_skip (s_inBlock (Se rfl ?_))
 refine o_lits0 .free rfl ?_
 intro b40
 refine Oa rfl (o_done (s_ret (.tmp rfl .nil) ?_))
 have hbd : e.binds i = [] := by
  cases e with
  | lt x a b => exact if_neg fun hi => by rcases c0 with h | h; exact h rfl; omega
  | fn f x s t b => exact absurd rfl c1
  | _ => rfl
 exact ⟨I, L, .refl _, drops, some ⟨b40, 0, none⟩, 0, by rw [hbd]; rfl, by rw [hbd]; exact strs_empty I _, rfl⟩

/-- What the reference's gathering of names returns: its list, in a block of the call's own. -/
def LP (l : List Txt) (L : Own) : Post := fun v I' L' => ∃ B c, v = bufVal l.length c B ∧ BufOk 1 l.length c (l.map sv) B ∧ L' = bufOwn 9 (l.map sv) B ++ L
theorem has_buf {l : List Txt} {B : Buf} {c : Nat} (hB : BufOk 1 l.length c (l.map sv) B) (hl : l.length ≤ maxN) (I : Heap) (p : Nat × Obj) (L : Own) (s : Txt) :
  Fun Tryz.prog 143 [bufVal l.length c B, .string (str s)] I (p :: (bufOwn 9 (l.map sv) B ++ L)) (Only (.bool (decide (s ∈ l))) I (p :: (bufOwn 9 (l.map sv) B ++ L))) := by
 obtain ⟨oa, c', hbv, hrd⟩ := buf_rd (I := I) (L := L) (e := 9) hB rfl hl
 rw [hbv]
 exact g_l1Has (hrd.sub fun w h => h.drop) c' s
theorem addAll_one {l : List Txt} {s : Txt} (h : s ∉ l) : addAll l [s] = l ++ [s] := by simp [addAll, addOnce, h]
theorem addAll_in {l : List Txt} {s : Txt} (h : s ∈ l) : addAll l [s] = l := by simp [addAll, addOnce, h]
theorem addAll_room {l bd : List Txt} {e : Ex} {k n : Nat} (h : l.length + (e.size + k) ≤ n) : (addAll l (e.occ bd)).length + k ≤ n := by
 have := addAll_len l (e.occ bd); have := e.occ_len bd; omega
theorem addAll_room2 {l bd bd' : List Txt} {e e' : Ex} {k n : Nat} (h : l.length + (e.size + (e'.size + k)) ≤ n) : (addAll (addAll l (e.occ bd)) (e'.occ bd')).length + k ≤ n := addAll_room (addAll_room h)
theorem g_l2Free : ∀ (n : Nat) {I : Heap} {e : Ex} {cs : List Value} (_ : SizeOf.sizeOf e < n) (_ : Rep I e.tree cs) (_ : e.ok = true) {bd : List Txt} {ob : Option Addr} {cb : Nat} (_ : Strs I ob bd cb) (_ : bd.length + 2 * e.size ≤ maxN)
   (l : List Txt) (B : Buf) (c : Nat) (_ : l.length + e.size ≤ 4294967295) (_ : BufOk 1 l.length c (l.map sv) B) (L : Own),
  Fun Tryz.prog 115 [.agg cs.toArray, .slice ob bd.length cb, bufVal l.length c B] I (bufOwn 9 (l.map sv) B ++ L) (LP (addAll l (e.occ bd)) L) := by
 intro n
 induction n with
 | zero => intro I e cs h; omega
 | succ n ihn =>
  intro I e cs hlt h hok bd ob cb hbd hbl l B c hl hB L
  obtain ⟨oa, cc, oaf, cf, rfl, hf⟩ := h.at'
  have ha := hf.alen
  have hlN : l.length ≤ maxN := by unfold maxN; omega
  unfold maxN at hbl
  refine fun_intro (by simp) ?_
  refine Se rfl ?_
  refine o_box rfl rfl .free rfl ?_
  intro b3
  refine Oa rfl (o_done (s_seq (Se rfl (Oh rfl ?_))))
  refine o_lO1 rfl .free rfl ?_
  refine Od rfl rfl rfl (o_done ?_)
  refine s_cond rfl ?_ ?_
  ·intro c0
   try simp only [nb] at c0
   have hb : e.bare = true := by
    cases hb : e.bare with
    | true => rfl
    | false => exact absurd ((Ex.atom_iff hok).2 hb) c0
   refine s_seq (Se rfl (Oh rfl ?_))
   refine o_lO1 rfl .free rfl ?_
   refine o_call rfl .free rfl (g_l2Name e.tree.atom ha _ _) ?_
   rintro _ _ _ _ ⟨rfl, rfl, rfl⟩
   refine o_not rfl .free rfl ?_
   refine Om rfl ?_
   apply o_or 17 22 rfl
   ·intro g2_5 hk
    try simp only [nb] at g2_5
    refine Ow rfl ?_
    refine o_fieldAddr rfl (.met rfl rfl) rfl ?_
    refine o_lO1 rfl (.met rfl rfl) rfl ?_
    refine o_call rfl (.met rfl rfl) rfl (g_l1Has (hbd.rd _) cb e.tree.atom) ?_
    rintro _ _ _ _ ⟨rfl, rfl, rfl⟩
    refine Of rfl rfl ?_
    exact o_fin 4 rfl rfl hk
   ·intro _ hk
    refine o_skips 4 rfl ?_
    refine Ot rfl rfl ?_
    exact o_fin 4 rfl rfl hk
   refine Om rfl ?_
   apply o_or 23 28 rfl
   ·intro g2_11 hk
    try simp only [nb] at g2_11
    refine Ow rfl ?_
    refine o_fieldAddr rfl (.met rfl rfl) rfl ?_
    refine o_lO1 rfl (.met rfl rfl) rfl ?_
    refine o_call rfl (.met rfl rfl) rfl (has_buf hB hlN _ _ _ _) ?_
    rintro _ _ _ _ ⟨rfl, rfl, rfl⟩
    refine Of rfl rfl ?_
    exact o_fin 4 rfl rfl hk
   ·intro _ hk
    refine o_skips 4 rfl ?_
    refine Ot rfl rfl ?_
    exact o_fin 4 rfl rfl hk
   refine o_done ?_
   refine s_cond rfl ?_ ?_
   ·intro c1
    try simp only [nb] at c1
    refine Se rfl (Om rfl (Oa rfl (o_done (s_ret (.tmp rfl .nil) ?_))))
    have hoc : addAll l (e.occ bd) = l := by
     cases e with
     | num s => rfl
     | name s =>
      have c1 : (isName s = false ∨ s ∈ bd) ∨ s ∈ l := c1
      rcases c1 with (h | h) | h
      ·rw [show isName s = true from hok] at h; cases h
      ·simp only [Ex.occ]; rw [if_pos h]; rfl
      ·simp only [Ex.occ]
       split
       ·rfl
       ·exact addAll_in h
     | _ => cases hb
    exact ⟨I, _, .refl _, fun w h => h.drop, B, c, by rw [hoc]; rfl, by rw [hoc]; exact hB, by rw [hoc]⟩
   intro c1
   try simp only [nb] at c1
   refine s_skip (Se rfl (Om rfl (Oh rfl ?_)))
   refine o_lO1 rfl .free rfl ?_
   refine Ol rfl rfl ?_
   intro b33
   refine o_append (B := B) (xs := l.map sv) (ys := [sv e.tree.atom]) (m := l.length) (c := c) (by intro kk; simp) (by rfl) rfl rfl hB (fun _ h => h.u2) (by rfl) (fun a ha => by cases ha; exact reads_ownL (.head _) (by rfl)) (by simp) (by rfl) (by decide) (by decide) (by have := e.size_pos; omega) (by decide) .free rfl ?_
   intro bb sp c2 hB'
   refine Oa rfl (o_done (s_ret (.tmp rfl .nil) ?_))
   have hoc : addAll l (e.occ bd) = l ++ [e.tree.atom] := by
    cases e with
    | num s =>
     have h1 : isName s = true := c1.1.1
     have h2 := name_not_num h1
     rw [show isNum s = true from hok] at h2; cases h2
    | name s =>
     have c1 : (isName s = true ∧ ¬ s ∈ bd) ∧ ¬ s ∈ l := c1
     simp only [Ex.occ]; rw [if_neg c1.1.2]; exact addAll_one c1.2
    | _ => cases hb
   exact ⟨I, _, .refl _, fun w h => Mem.sub (L' := (bb, _) :: L) (by repeat (first | exact List.Sublist.refl _ | apply List.Sublist.cons_cons | apply List.Sublist.cons)) h, some (bb, sp), c2, by rw [hoc]; simp [retOne, bufVal], by rw [hoc]; simpa using hB', by rw [hoc]; simp [bufOwn]⟩
  intro c0
  try simp only [nb] at c0
  have hb : e.bare = false := (Ex.atom_iff hok).1 (by simpa using c0)
  have hsh := e.shapes hb
  have h0 : 0 < e.tree.parts.length := by
   rw [Ex.bare_parts] at hb
   have : e.tree.parts ≠ [] := by intro hh; rw [hh] at hb; cases hb
   exact List.length_pos_iff.2 this
  have hhd := head_at h0
  have hok0 := hok
  have hle : HLe I I := .refl _
  refine s_skip (Se rfl (Oh rfl ?_))
  refine o_lO1 rfl .free rfl ?_
  first | refine o_ixD rfl rfl 0 rfl .free rfl ?_ | refine o_ixP rfl rfl 0 rfl .free rfl ?_
  refine o_fieldAddr' rfl .free rfl ?_
  refine o_lIF rfl .free rfl ?_
  refine o_call rfl .free rfl (g_l2Kids (e.tree.pt 0).atom _ _) ?_
  rw [← hhd]; rintro _ _ _ _ ⟨rfl, rfl, rfl⟩
  refine Om rfl (Oe rfl rfl (Oe rfl rfl (Oa rfl (Oa rfl (o_done (s_seq (s_seq ?_)))))))
  rcases hsh with ⟨o, a, b, rfl⟩ | ⟨a, b, d, rfl⟩ | ⟨z, a, b, rfl⟩ | ⟨g, z, s, t, b, rfl⟩ | ⟨o, a, rfl⟩
  ·skip
   have hk : kidRange (Ex.bin o a b).tree.head = (1, 3) := by cases o <;> rfl
   rw [hk]
   have hlen : (Ex.bin o a b).tree.parts.length = 3 := rfl
   have hki := kids_bin o a b
   simp only [Ex.bin.sizeOf_spec] at hlt
   simp only [Ex.size] at hbl hl
   simp only [Ex.ok, Bool.and_eq_true] at hok
   refine o_enter rfl (Om rfl (Oa rfl (o_done (s_block ?_))))
   refine s_loop ?_
   refine s_seq (Se rfl (Om rfl (Om rfl (Oc rfl rfl rfl (o_done ?_)))))
   refine s_condT rfl (by first | rfl | decide | (simp; done) | omega) ?_
   refine s_skip (s_seq (s_block ?_))
   refine d_x 15 rfl rfl ?_
   refine Da 0 rfl (y_fieldAddr rfl) ?_
   refine Dt 1 [15] rfl (y_lO1 rfl) ?_
   refine Da 2 rfl (y_move rfl) ?_
   first | refine Da 3 rfl (y_ixD rfl rfl _ rfl) ?_ | refine Da 3 rfl (y_ixP rfl rfl _ rfl) ?_
   refine Dt 4 [15] rfl (y_lIS rfl) ?_
   refine Da 6 rfl (y_move rfl) ?_
   refine Dt 8 [15] rfl (y_lOS rfl) ?_
   refine Da 9 rfl (y_move rfl) ?_
   refine Da 12 rfl (y_move rfl) ?_
   refine d_lits0 5 rfl (by kernel_rfl) rfl .free rfl (.inr heldx) ?_
   intro b55
   refine d_appendB 7 (B := some (b55, [])) (xs := []) (ys := bd.map sv) (m := 0) (c := 0) rfl (by kernel_rfl) rfl (by intro kk; simp) (by rfl) rfl rfl ⟨rfl, Nat.le_refl _, rfl⟩ (fun _ h => h) (by simp) hbd.reads hbd.none (sv_plain bd) (by decide) (by omega) (by decide) .free rfl (fun _ => .inr heldx) ?_
   intro B1 c1' hB1
   refine d_call 10 rfl (by kernel_rfl) rfl rfl .free rfl (g_l2Binds hf.rep hok0 hb _ (by rw [hki]; decide) _) ?_
   rintro _ J1 _ e1 ⟨o1, k1, rfl, hs1, rfl⟩
   have hbd1 := hbd.mono e1
   refine ⟨(.inr heldx), ?_⟩
   refine d_appendB 11 (B := B1) (xs := bd.map sv) (ys := (Ex.binds _ _).map sv) (m := 0 + bd.length) (c := c1') rfl (by kernel_rfl) rfl (by intro kk; simp) (by rfl) rfl rfl hB1 (fun _ h => h) (by simp) hs1.reads hs1.none (sv_plain _) (by decide) (Ex.binds_room1 (by omega)) (by decide) .free rfl (fun _ => .inr heldx) ?_
   intro B2 c2' hB2
   rw [← List.map_append] at hB2 ⊢
   refine d_freezeStrs (l := bd ++ Ex.binds _ _) hB2 (by simp) (by rw [List.length_append]; exact Ex.binds_room0 (by omega)) (hbd1.append hs1) ?_
   intro J3 o3 k3 ez hbv hs3
   refine d_put (t := 61) rfl hbv ?_
   have e4 := e1.trans ez
   have hf3 := hf.mono e4
   refine d_mem (fun w h => h.u1) ?_
   refine d_call 13 rfl (by kernel_rfl) rfl rfl .free rfl (ihn (by omega) (hf3.as 1 a.tree (by omega) rfl) hok.1 hs3 (Ex.binds_room (by omega)) _ _ _ (by omega) hB _) ?_
   rintro _ J4 _ e5 ⟨B, c, rfl, hB, rfl⟩
   have e6 := e4.trans e5
   refine ⟨(.inr heldx), ?_⟩
   refine d_mem (fun w h => h.w1) ?_
   have hf := hf.mono e6
   have hbd := hbd.mono e6
   have hle := hle.trans e6
   refine Da 14 rfl (y_assign rfl) ?_
   refine d_done (by kernel_rfl) ?_
   refine s_inBlock (o_enter rfl (Om rfl ?_))
   refine Or rfl rfl rfl ?_
   refine Oa rfl (o_done ?_)
   refine s_round ?_
   refine s_seq (Se rfl (Om rfl (Om rfl (Oc rfl rfl rfl (o_done ?_)))))
   refine s_condT rfl (by first | rfl | decide | (simp; done) | omega) ?_
   refine s_skip (s_seq (s_block ?_))
   refine d_x 15 rfl rfl ?_
   refine Da 0 rfl (y_fieldAddr rfl) ?_
   refine Dt 1 [15] rfl (y_lO1 rfl) ?_
   refine Da 2 rfl (y_move rfl) ?_
   first | refine Da 3 rfl (y_ixD rfl rfl _ rfl) ?_ | refine Da 3 rfl (y_ixP rfl rfl _ rfl) ?_
   refine Dt 4 [15] rfl (y_lIS rfl) ?_
   refine Da 6 rfl (y_move rfl) ?_
   refine Dt 8 [15] rfl (y_lOS rfl) ?_
   refine Da 9 rfl (y_move rfl) ?_
   refine Da 12 rfl (y_move rfl) ?_
   refine d_lits0 5 rfl (by kernel_rfl) rfl .free rfl (.inr heldx) ?_
   intro b55
   refine d_appendB 7 (B := some (b55, [])) (xs := []) (ys := bd.map sv) (m := 0) (c := 0) rfl (by kernel_rfl) rfl (by intro kk; simp) (by rfl) rfl rfl ⟨rfl, Nat.le_refl _, rfl⟩ (fun _ h => h) (by simp) hbd.reads hbd.none (sv_plain bd) (by decide) (by omega) (by decide) .free rfl (fun _ => .inr heldx) ?_
   intro B1 c1' hB1
   refine d_call 10 rfl (by kernel_rfl) rfl rfl .free rfl (g_l2Binds hf.rep hok0 hb _ (by rw [hki]; decide) _) ?_
   rintro _ J1 _ e1 ⟨o1, k1, rfl, hs1, rfl⟩
   have hbd1 := hbd.mono e1
   refine ⟨(.inr heldx), ?_⟩
   refine d_appendB 11 (B := B1) (xs := bd.map sv) (ys := (Ex.binds _ _).map sv) (m := 0 + bd.length) (c := c1') rfl (by kernel_rfl) rfl (by intro kk; simp) (by rfl) rfl rfl hB1 (fun _ h => h) (by simp) hs1.reads hs1.none (sv_plain _) (by decide) (Ex.binds_room1 (by omega)) (by decide) .free rfl (fun _ => .inr heldx) ?_
   intro B2 c2' hB2
   rw [← List.map_append] at hB2 ⊢
   refine d_freezeStrs (l := bd ++ Ex.binds _ _) hB2 (by simp) (by rw [List.length_append]; exact Ex.binds_room0 (by omega)) (hbd1.append hs1) ?_
   intro J3 o3 k3 ez hbv hs3
   refine d_put (t := 61) rfl hbv ?_
   have e4 := e1.trans ez
   have hf3 := hf.mono e4
   refine d_mem (fun w h => h.u1) ?_
   refine d_call 13 rfl (by kernel_rfl) rfl rfl .free rfl (ihn (by omega) (hf3.as 2 b.tree (by omega) rfl) hok.2 hs3 (Ex.binds_room (by omega)) _ _ _ (addAll_room (by omega)) hB _) ?_
   rintro _ J4 _ e5 ⟨B, c, rfl, hB, rfl⟩
   have e6 := e4.trans e5
   refine ⟨(.inr heldx), ?_⟩
   refine d_mem (fun w h => h.w1) ?_
   have hf := hf.mono e6
   have hbd := hbd.mono e6
   have hle := hle.trans e6
   refine Da 14 rfl (y_assign rfl) ?_
   refine d_done (by kernel_rfl) ?_
   refine s_inBlock (o_enter rfl (Om rfl ?_))
   refine Or rfl rfl rfl ?_
   refine Oa rfl (o_done ?_)
   refine s_round ?_
   refine s_seq (Se rfl (Om rfl (Om rfl (Oc rfl rfl rfl (o_done ?_)))))
   refine s_condF rfl (by first | rfl | decide | (simp; done) | omega) ?_
   refine s_exit rfl ?_
   refine Se rfl (Om rfl (Oa rfl (o_done (s_ret (.tmp rfl .nil) ?_))))
   exact ⟨_, _, hle, fun w h => h.drop, B, c, by simp [Ex.occ, Ex.binds, addAll_append, retOne], by simpa [Ex.occ, Ex.binds, addAll_append] using hB, by simp [Ex.occ, Ex.binds, addAll_append]⟩
  ·skip
   have hk : kidRange (Ex.ite a b d).tree.head = (1, 4) := rfl
   rw [hk]
   have hlen : (Ex.ite a b d).tree.parts.length = 4 := rfl
   have hki := kids_ite a b d
   simp only [Ex.ite.sizeOf_spec] at hlt
   simp only [Ex.size] at hbl hl
   simp only [Ex.ok, Bool.and_eq_true] at hok
   refine o_enter rfl (Om rfl (Oa rfl (o_done (s_block ?_))))
   refine s_loop ?_
   refine s_seq (Se rfl (Om rfl (Om rfl (Oc rfl rfl rfl (o_done ?_)))))
   refine s_condT rfl (by first | rfl | decide | (simp; done) | omega) ?_
   refine s_skip (s_seq (s_block ?_))
   refine d_x 15 rfl rfl ?_
   refine Da 0 rfl (y_fieldAddr rfl) ?_
   refine Dt 1 [15] rfl (y_lO1 rfl) ?_
   refine Da 2 rfl (y_move rfl) ?_
   first | refine Da 3 rfl (y_ixD rfl rfl _ rfl) ?_ | refine Da 3 rfl (y_ixP rfl rfl _ rfl) ?_
   refine Dt 4 [15] rfl (y_lIS rfl) ?_
   refine Da 6 rfl (y_move rfl) ?_
   refine Dt 8 [15] rfl (y_lOS rfl) ?_
   refine Da 9 rfl (y_move rfl) ?_
   refine Da 12 rfl (y_move rfl) ?_
   refine d_lits0 5 rfl (by kernel_rfl) rfl .free rfl (.inr heldx) ?_
   intro b55
   refine d_appendB 7 (B := some (b55, [])) (xs := []) (ys := bd.map sv) (m := 0) (c := 0) rfl (by kernel_rfl) rfl (by intro kk; simp) (by rfl) rfl rfl ⟨rfl, Nat.le_refl _, rfl⟩ (fun _ h => h) (by simp) hbd.reads hbd.none (sv_plain bd) (by decide) (by omega) (by decide) .free rfl (fun _ => .inr heldx) ?_
   intro B1 c1' hB1
   refine d_call 10 rfl (by kernel_rfl) rfl rfl .free rfl (g_l2Binds hf.rep hok0 hb _ (by rw [hki]; decide) _) ?_
   rintro _ J1 _ e1 ⟨o1, k1, rfl, hs1, rfl⟩
   have hbd1 := hbd.mono e1
   refine ⟨(.inr heldx), ?_⟩
   refine d_appendB 11 (B := B1) (xs := bd.map sv) (ys := (Ex.binds _ _).map sv) (m := 0 + bd.length) (c := c1') rfl (by kernel_rfl) rfl (by intro kk; simp) (by rfl) rfl rfl hB1 (fun _ h => h) (by simp) hs1.reads hs1.none (sv_plain _) (by decide) (Ex.binds_room1 (by omega)) (by decide) .free rfl (fun _ => .inr heldx) ?_
   intro B2 c2' hB2
   rw [← List.map_append] at hB2 ⊢
   refine d_freezeStrs (l := bd ++ Ex.binds _ _) hB2 (by simp) (by rw [List.length_append]; exact Ex.binds_room0 (by omega)) (hbd1.append hs1) ?_
   intro J3 o3 k3 ez hbv hs3
   refine d_put (t := 61) rfl hbv ?_
   have e4 := e1.trans ez
   have hf3 := hf.mono e4
   refine d_mem (fun w h => h.u1) ?_
   refine d_call 13 rfl (by kernel_rfl) rfl rfl .free rfl (ihn (by omega) (hf3.as 1 a.tree (by omega) rfl) hok.1.1 hs3 (Ex.binds_room (by omega)) _ _ _ (by omega) hB _) ?_
   rintro _ J4 _ e5 ⟨B, c, rfl, hB, rfl⟩
   have e6 := e4.trans e5
   refine ⟨(.inr heldx), ?_⟩
   refine d_mem (fun w h => h.w1) ?_
   have hf := hf.mono e6
   have hbd := hbd.mono e6
   have hle := hle.trans e6
   refine Da 14 rfl (y_assign rfl) ?_
   refine d_done (by kernel_rfl) ?_
   refine s_inBlock (o_enter rfl (Om rfl ?_))
   refine Or rfl rfl rfl ?_
   refine Oa rfl (o_done ?_)
   refine s_round ?_
   refine s_seq (Se rfl (Om rfl (Om rfl (Oc rfl rfl rfl (o_done ?_)))))
   refine s_condT rfl (by first | rfl | decide | (simp; done) | omega) ?_
   refine s_skip (s_seq (s_block ?_))
   refine d_x 15 rfl rfl ?_
   refine Da 0 rfl (y_fieldAddr rfl) ?_
   refine Dt 1 [15] rfl (y_lO1 rfl) ?_
   refine Da 2 rfl (y_move rfl) ?_
   first | refine Da 3 rfl (y_ixD rfl rfl _ rfl) ?_ | refine Da 3 rfl (y_ixP rfl rfl _ rfl) ?_
   refine Dt 4 [15] rfl (y_lIS rfl) ?_
   refine Da 6 rfl (y_move rfl) ?_
   refine Dt 8 [15] rfl (y_lOS rfl) ?_
   refine Da 9 rfl (y_move rfl) ?_
   refine Da 12 rfl (y_move rfl) ?_
   refine d_lits0 5 rfl (by kernel_rfl) rfl .free rfl (.inr heldx) ?_
   intro b55
   refine d_appendB 7 (B := some (b55, [])) (xs := []) (ys := bd.map sv) (m := 0) (c := 0) rfl (by kernel_rfl) rfl (by intro kk; simp) (by rfl) rfl rfl ⟨rfl, Nat.le_refl _, rfl⟩ (fun _ h => h) (by simp) hbd.reads hbd.none (sv_plain bd) (by decide) (by omega) (by decide) .free rfl (fun _ => .inr heldx) ?_
   intro B1 c1' hB1
   refine d_call 10 rfl (by kernel_rfl) rfl rfl .free rfl (g_l2Binds hf.rep hok0 hb _ (by rw [hki]; decide) _) ?_
   rintro _ J1 _ e1 ⟨o1, k1, rfl, hs1, rfl⟩
   have hbd1 := hbd.mono e1
   refine ⟨(.inr heldx), ?_⟩
   refine d_appendB 11 (B := B1) (xs := bd.map sv) (ys := (Ex.binds _ _).map sv) (m := 0 + bd.length) (c := c1') rfl (by kernel_rfl) rfl (by intro kk; simp) (by rfl) rfl rfl hB1 (fun _ h => h) (by simp) hs1.reads hs1.none (sv_plain _) (by decide) (Ex.binds_room1 (by omega)) (by decide) .free rfl (fun _ => .inr heldx) ?_
   intro B2 c2' hB2
   rw [← List.map_append] at hB2 ⊢
   refine d_freezeStrs (l := bd ++ Ex.binds _ _) hB2 (by simp) (by rw [List.length_append]; exact Ex.binds_room0 (by omega)) (hbd1.append hs1) ?_
   intro J3 o3 k3 ez hbv hs3
   refine d_put (t := 61) rfl hbv ?_
   have e4 := e1.trans ez
   have hf3 := hf.mono e4
   refine d_mem (fun w h => h.u1) ?_
   refine d_call 13 rfl (by kernel_rfl) rfl rfl .free rfl (ihn (by omega) (hf3.as 2 b.tree (by omega) rfl) hok.1.2 hs3 (Ex.binds_room (by omega)) _ _ _ (addAll_room (by omega)) hB _) ?_
   rintro _ J4 _ e5 ⟨B, c, rfl, hB, rfl⟩
   have e6 := e4.trans e5
   refine ⟨(.inr heldx), ?_⟩
   refine d_mem (fun w h => h.w1) ?_
   have hf := hf.mono e6
   have hbd := hbd.mono e6
   have hle := hle.trans e6
   refine Da 14 rfl (y_assign rfl) ?_
   refine d_done (by kernel_rfl) ?_
   refine s_inBlock (o_enter rfl (Om rfl ?_))
   refine Or rfl rfl rfl ?_
   refine Oa rfl (o_done ?_)
   refine s_round ?_
   refine s_seq (Se rfl (Om rfl (Om rfl (Oc rfl rfl rfl (o_done ?_)))))
   refine s_condT rfl (by first | rfl | decide | (simp; done) | omega) ?_
   refine s_skip (s_seq (s_block ?_))
   refine d_x 15 rfl rfl ?_
   refine Da 0 rfl (y_fieldAddr rfl) ?_
   refine Dt 1 [15] rfl (y_lO1 rfl) ?_
   refine Da 2 rfl (y_move rfl) ?_
   first | refine Da 3 rfl (y_ixD rfl rfl _ rfl) ?_ | refine Da 3 rfl (y_ixP rfl rfl _ rfl) ?_
   refine Dt 4 [15] rfl (y_lIS rfl) ?_
   refine Da 6 rfl (y_move rfl) ?_
   refine Dt 8 [15] rfl (y_lOS rfl) ?_
   refine Da 9 rfl (y_move rfl) ?_
   refine Da 12 rfl (y_move rfl) ?_
   refine d_lits0 5 rfl (by kernel_rfl) rfl .free rfl (.inr heldx) ?_
   intro b55
   refine d_appendB 7 (B := some (b55, [])) (xs := []) (ys := bd.map sv) (m := 0) (c := 0) rfl (by kernel_rfl) rfl (by intro kk; simp) (by rfl) rfl rfl ⟨rfl, Nat.le_refl _, rfl⟩ (fun _ h => h) (by simp) hbd.reads hbd.none (sv_plain bd) (by decide) (by omega) (by decide) .free rfl (fun _ => .inr heldx) ?_
   intro B1 c1' hB1
   refine d_call 10 rfl (by kernel_rfl) rfl rfl .free rfl (g_l2Binds hf.rep hok0 hb _ (by rw [hki]; decide) _) ?_
   rintro _ J1 _ e1 ⟨o1, k1, rfl, hs1, rfl⟩
   have hbd1 := hbd.mono e1
   refine ⟨(.inr heldx), ?_⟩
   refine d_appendB 11 (B := B1) (xs := bd.map sv) (ys := (Ex.binds _ _).map sv) (m := 0 + bd.length) (c := c1') rfl (by kernel_rfl) rfl (by intro kk; simp) (by rfl) rfl rfl hB1 (fun _ h => h) (by simp) hs1.reads hs1.none (sv_plain _) (by decide) (Ex.binds_room1 (by omega)) (by decide) .free rfl (fun _ => .inr heldx) ?_
   intro B2 c2' hB2
   rw [← List.map_append] at hB2 ⊢
   refine d_freezeStrs (l := bd ++ Ex.binds _ _) hB2 (by simp) (by rw [List.length_append]; exact Ex.binds_room0 (by omega)) (hbd1.append hs1) ?_
   intro J3 o3 k3 ez hbv hs3
   refine d_put (t := 61) rfl hbv ?_
   have e4 := e1.trans ez
   have hf3 := hf.mono e4
   refine d_mem (fun w h => h.u1) ?_
   refine d_call 13 rfl (by kernel_rfl) rfl rfl .free rfl (ihn (by omega) (hf3.as 3 d.tree (by omega) rfl) hok.2 hs3 (Ex.binds_room (by omega)) _ _ _ (addAll_room2 (by omega)) hB _) ?_
   rintro _ J4 _ e5 ⟨B, c, rfl, hB, rfl⟩
   have e6 := e4.trans e5
   refine ⟨(.inr heldx), ?_⟩
   refine d_mem (fun w h => h.w1) ?_
   have hf := hf.mono e6
   have hbd := hbd.mono e6
   have hle := hle.trans e6
   refine Da 14 rfl (y_assign rfl) ?_
   refine d_done (by kernel_rfl) ?_
   refine s_inBlock (o_enter rfl (Om rfl ?_))
   refine Or rfl rfl rfl ?_
   refine Oa rfl (o_done ?_)
   refine s_round ?_
   refine s_seq (Se rfl (Om rfl (Om rfl (Oc rfl rfl rfl (o_done ?_)))))
   refine s_condF rfl (by first | rfl | decide | (simp; done) | omega) ?_
   refine s_exit rfl ?_
   refine Se rfl (Om rfl (Oa rfl (o_done (s_ret (.tmp rfl .nil) ?_))))
   exact ⟨_, _, hle, fun w h => h.drop, B, c, by simp [Ex.occ, Ex.binds, addAll_append, retOne], by simpa [Ex.occ, Ex.binds, addAll_append] using hB, by simp [Ex.occ, Ex.binds, addAll_append]⟩
  ·skip
   have hk : kidRange (Ex.lt z a b).tree.head = (2, 4) := rfl
   rw [hk]
   have hlen : (Ex.lt z a b).tree.parts.length = 4 := rfl
   have hki := kids_lt' z a b
   simp only [Ex.lt.sizeOf_spec] at hlt
   simp only [Ex.size] at hbl hl
   simp only [Ex.ok, Bool.and_eq_true] at hok
   refine o_enter rfl (Om rfl (Oa rfl (o_done (s_block ?_))))
   refine s_loop ?_
   refine s_seq (Se rfl (Om rfl (Om rfl (Oc rfl rfl rfl (o_done ?_)))))
   refine s_condT rfl (by first | rfl | decide | (simp; done) | omega) ?_
   refine s_skip (s_seq (s_block ?_))
   refine d_x 15 rfl rfl ?_
   refine Da 0 rfl (y_fieldAddr rfl) ?_
   refine Dt 1 [15] rfl (y_lO1 rfl) ?_
   refine Da 2 rfl (y_move rfl) ?_
   first | refine Da 3 rfl (y_ixD rfl rfl _ rfl) ?_ | refine Da 3 rfl (y_ixP rfl rfl _ rfl) ?_
   refine Dt 4 [15] rfl (y_lIS rfl) ?_
   refine Da 6 rfl (y_move rfl) ?_
   refine Dt 8 [15] rfl (y_lOS rfl) ?_
   refine Da 9 rfl (y_move rfl) ?_
   refine Da 12 rfl (y_move rfl) ?_
   refine d_lits0 5 rfl (by kernel_rfl) rfl .free rfl (.inr heldx) ?_
   intro b55
   refine d_appendB 7 (B := some (b55, [])) (xs := []) (ys := bd.map sv) (m := 0) (c := 0) rfl (by kernel_rfl) rfl (by intro kk; simp) (by rfl) rfl rfl ⟨rfl, Nat.le_refl _, rfl⟩ (fun _ h => h) (by simp) hbd.reads hbd.none (sv_plain bd) (by decide) (by omega) (by decide) .free rfl (fun _ => .inr heldx) ?_
   intro B1 c1' hB1
   refine d_call 10 rfl (by kernel_rfl) rfl rfl .free rfl (g_l2Binds hf.rep hok0 hb _ (by rw [hki]; decide) _) ?_
   rintro _ J1 _ e1 ⟨o1, k1, rfl, hs1, rfl⟩
   have hbd1 := hbd.mono e1
   refine ⟨(.inr heldx), ?_⟩
   refine d_appendB 11 (B := B1) (xs := bd.map sv) (ys := (Ex.binds _ _).map sv) (m := 0 + bd.length) (c := c1') rfl (by kernel_rfl) rfl (by intro kk; simp) (by rfl) rfl rfl hB1 (fun _ h => h) (by simp) hs1.reads hs1.none (sv_plain _) (by decide) (Ex.binds_room1 (by omega)) (by decide) .free rfl (fun _ => .inr heldx) ?_
   intro B2 c2' hB2
   rw [← List.map_append] at hB2 ⊢
   refine d_freezeStrs (l := bd ++ Ex.binds _ _) hB2 (by simp) (by rw [List.length_append]; exact Ex.binds_room0 (by omega)) (hbd1.append hs1) ?_
   intro J3 o3 k3 ez hbv hs3
   refine d_put (t := 61) rfl hbv ?_
   have e4 := e1.trans ez
   have hf3 := hf.mono e4
   refine d_mem (fun w h => h.u1) ?_
   refine d_call 13 rfl (by kernel_rfl) rfl rfl .free rfl (ihn (by omega) (hf3.as 2 a.tree (by omega) rfl) hok.1.2 hs3 (Ex.binds_room (by omega)) _ _ _ (by omega) hB _) ?_
   rintro _ J4 _ e5 ⟨B, c, rfl, hB, rfl⟩
   have e6 := e4.trans e5
   refine ⟨(.inr heldx), ?_⟩
   refine d_mem (fun w h => h.w1) ?_
   have hf := hf.mono e6
   have hbd := hbd.mono e6
   have hle := hle.trans e6
   refine Da 14 rfl (y_assign rfl) ?_
   refine d_done (by kernel_rfl) ?_
   refine s_inBlock (o_enter rfl (Om rfl ?_))
   refine Or rfl rfl rfl ?_
   refine Oa rfl (o_done ?_)
   refine s_round ?_
   refine s_seq (Se rfl (Om rfl (Om rfl (Oc rfl rfl rfl (o_done ?_)))))
   refine s_condT rfl (by first | rfl | decide | (simp; done) | omega) ?_
   refine s_skip (s_seq (s_block ?_))
   refine d_x 15 rfl rfl ?_
   refine Da 0 rfl (y_fieldAddr rfl) ?_
   refine Dt 1 [15] rfl (y_lO1 rfl) ?_
   refine Da 2 rfl (y_move rfl) ?_
   first | refine Da 3 rfl (y_ixD rfl rfl _ rfl) ?_ | refine Da 3 rfl (y_ixP rfl rfl _ rfl) ?_
   refine Dt 4 [15] rfl (y_lIS rfl) ?_
   refine Da 6 rfl (y_move rfl) ?_
   refine Dt 8 [15] rfl (y_lOS rfl) ?_
   refine Da 9 rfl (y_move rfl) ?_
   refine Da 12 rfl (y_move rfl) ?_
   refine d_lits0 5 rfl (by kernel_rfl) rfl .free rfl (.inr heldx) ?_
   intro b55
   refine d_appendB 7 (B := some (b55, [])) (xs := []) (ys := bd.map sv) (m := 0) (c := 0) rfl (by kernel_rfl) rfl (by intro kk; simp) (by rfl) rfl rfl ⟨rfl, Nat.le_refl _, rfl⟩ (fun _ h => h) (by simp) hbd.reads hbd.none (sv_plain bd) (by decide) (by omega) (by decide) .free rfl (fun _ => .inr heldx) ?_
   intro B1 c1' hB1
   refine d_call 10 rfl (by kernel_rfl) rfl rfl .free rfl (g_l2Binds hf.rep hok0 hb _ (by rw [hki]; decide) _) ?_
   rintro _ J1 _ e1 ⟨o1, k1, rfl, hs1, rfl⟩
   have hbd1 := hbd.mono e1
   refine ⟨(.inr heldx), ?_⟩
   refine d_appendB 11 (B := B1) (xs := bd.map sv) (ys := (Ex.binds _ _).map sv) (m := 0 + bd.length) (c := c1') rfl (by kernel_rfl) rfl (by intro kk; simp) (by rfl) rfl rfl hB1 (fun _ h => h) (by simp) hs1.reads hs1.none (sv_plain _) (by decide) (Ex.binds_room1 (by omega)) (by decide) .free rfl (fun _ => .inr heldx) ?_
   intro B2 c2' hB2
   rw [← List.map_append] at hB2 ⊢
   refine d_freezeStrs (l := bd ++ Ex.binds _ _) hB2 (by simp) (by rw [List.length_append]; exact Ex.binds_room0 (by omega)) (hbd1.append hs1) ?_
   intro J3 o3 k3 ez hbv hs3
   refine d_put (t := 61) rfl hbv ?_
   have e4 := e1.trans ez
   have hf3 := hf.mono e4
   refine d_mem (fun w h => h.u1) ?_
   refine d_call 13 rfl (by kernel_rfl) rfl rfl .free rfl (ihn (by omega) (hf3.as 3 b.tree (by omega) rfl) hok.2 hs3 (Ex.binds_room (by omega)) _ _ _ (addAll_room (by omega)) hB _) ?_
   rintro _ J4 _ e5 ⟨B, c, rfl, hB, rfl⟩
   have e6 := e4.trans e5
   refine ⟨(.inr heldx), ?_⟩
   refine d_mem (fun w h => h.w1) ?_
   have hf := hf.mono e6
   have hbd := hbd.mono e6
   have hle := hle.trans e6
   refine Da 14 rfl (y_assign rfl) ?_
   refine d_done (by kernel_rfl) ?_
   refine s_inBlock (o_enter rfl (Om rfl ?_))
   refine Or rfl rfl rfl ?_
   refine Oa rfl (o_done ?_)
   refine s_round ?_
   refine s_seq (Se rfl (Om rfl (Om rfl (Oc rfl rfl rfl (o_done ?_)))))
   refine s_condF rfl (by first | rfl | decide | (simp; done) | omega) ?_
   refine s_exit rfl ?_
   refine Se rfl (Om rfl (Oa rfl (o_done (s_ret (.tmp rfl .nil) ?_))))
   exact ⟨_, _, hle, fun w h => h.drop, B, c, by simp [Ex.occ, Ex.binds, addAll_append, retOne], by simpa [Ex.occ, Ex.binds, addAll_append] using hB, by simp [Ex.occ, Ex.binds, addAll_append]⟩
  ·skip
   have hk : kidRange (Ex.fn g z s t b).tree.head = (5, 6) := rfl
   rw [hk]
   have hlen : (Ex.fn g z s t b).tree.parts.length = 6 := rfl
   have hki := kids_fn g z s t b
   simp only [Ex.fn.sizeOf_spec] at hlt
   simp only [Ex.size] at hbl hl
   simp only [Ex.ok, Bool.and_eq_true] at hok
   refine o_enter rfl (Om rfl (Oa rfl (o_done (s_block ?_))))
   refine s_loop ?_
   refine s_seq (Se rfl (Om rfl (Om rfl (Oc rfl rfl rfl (o_done ?_)))))
   refine s_condT rfl (by first | rfl | decide | (simp; done) | omega) ?_
   refine s_skip (s_seq (s_block ?_))
   refine d_x 15 rfl rfl ?_
   refine Da 0 rfl (y_fieldAddr rfl) ?_
   refine Dt 1 [15] rfl (y_lO1 rfl) ?_
   refine Da 2 rfl (y_move rfl) ?_
   first | refine Da 3 rfl (y_ixD rfl rfl _ rfl) ?_ | refine Da 3 rfl (y_ixP rfl rfl _ rfl) ?_
   refine Dt 4 [15] rfl (y_lIS rfl) ?_
   refine Da 6 rfl (y_move rfl) ?_
   refine Dt 8 [15] rfl (y_lOS rfl) ?_
   refine Da 9 rfl (y_move rfl) ?_
   refine Da 12 rfl (y_move rfl) ?_
   refine d_lits0 5 rfl (by kernel_rfl) rfl .free rfl (.inr heldx) ?_
   intro b55
   refine d_appendB 7 (B := some (b55, [])) (xs := []) (ys := bd.map sv) (m := 0) (c := 0) rfl (by kernel_rfl) rfl (by intro kk; simp) (by rfl) rfl rfl ⟨rfl, Nat.le_refl _, rfl⟩ (fun _ h => h) (by simp) hbd.reads hbd.none (sv_plain bd) (by decide) (by omega) (by decide) .free rfl (fun _ => .inr heldx) ?_
   intro B1 c1' hB1
   refine d_call 10 rfl (by kernel_rfl) rfl rfl .free rfl (g_l2Binds hf.rep hok0 hb _ (by rw [hki]; decide) _) ?_
   rintro _ J1 _ e1 ⟨o1, k1, rfl, hs1, rfl⟩
   have hbd1 := hbd.mono e1
   refine ⟨(.inr heldx), ?_⟩
   refine d_appendB 11 (B := B1) (xs := bd.map sv) (ys := (Ex.binds _ _).map sv) (m := 0 + bd.length) (c := c1') rfl (by kernel_rfl) rfl (by intro kk; simp) (by rfl) rfl rfl hB1 (fun _ h => h) (by simp) hs1.reads hs1.none (sv_plain _) (by decide) (Ex.binds_room1 (by omega)) (by decide) .free rfl (fun _ => .inr heldx) ?_
   intro B2 c2' hB2
   rw [← List.map_append] at hB2 ⊢
   refine d_freezeStrs (l := bd ++ Ex.binds _ _) hB2 (by simp) (by rw [List.length_append]; exact Ex.binds_room0 (by omega)) (hbd1.append hs1) ?_
   intro J3 o3 k3 ez hbv hs3
   refine d_put (t := 61) rfl hbv ?_
   have e4 := e1.trans ez
   have hf3 := hf.mono e4
   refine d_mem (fun w h => h.u1) ?_
   refine d_call 13 rfl (by kernel_rfl) rfl rfl .free rfl (ihn (by omega) (hf3.as 5 b.tree (by omega) rfl) hok.2 hs3 (Ex.binds_room (by omega)) _ _ _ (by omega) hB _) ?_
   rintro _ J4 _ e5 ⟨B, c, rfl, hB, rfl⟩
   have e6 := e4.trans e5
   refine ⟨(.inr heldx), ?_⟩
   refine d_mem (fun w h => h.w1) ?_
   have hf := hf.mono e6
   have hbd := hbd.mono e6
   have hle := hle.trans e6
   refine Da 14 rfl (y_assign rfl) ?_
   refine d_done (by kernel_rfl) ?_
   refine s_inBlock (o_enter rfl (Om rfl ?_))
   refine Or rfl rfl rfl ?_
   refine Oa rfl (o_done ?_)
   refine s_round ?_
   refine s_seq (Se rfl (Om rfl (Om rfl (Oc rfl rfl rfl (o_done ?_)))))
   refine s_condF rfl (by first | rfl | decide | (simp; done) | omega) ?_
   refine s_exit rfl ?_
   refine Se rfl (Om rfl (Oa rfl (o_done (s_ret (.tmp rfl .nil) ?_))))
   exact ⟨_, _, hle, fun w h => h.drop, B, c, by simp [Ex.occ, Ex.binds, addAll_append, retOne], by simpa [Ex.occ, Ex.binds, addAll_append] using hB, by simp [Ex.occ, Ex.binds, addAll_append]⟩
  ·skip
   have hk : kidRange (Ex.un o a).tree.head = (1, 2) := by cases o <;> rfl
   rw [hk]
   have hlen : (Ex.un o a).tree.parts.length = 2 := rfl
   have hki := kids_un o a
   simp only [Ex.un.sizeOf_spec] at hlt
   simp only [Ex.size] at hbl hl
   simp only [Ex.ok] at hok
   refine o_enter rfl (Om rfl (Oa rfl (o_done (s_block ?_))))
   refine s_loop ?_
   refine s_seq (Se rfl (Om rfl (Om rfl (Oc rfl rfl rfl (o_done ?_)))))
   refine s_condT rfl (by first | rfl | decide | (simp; done) | omega) ?_
   refine s_skip (s_seq (s_block ?_))
   refine d_x 15 rfl rfl ?_
   refine Da 0 rfl (y_fieldAddr rfl) ?_
   refine Dt 1 [15] rfl (y_lO1 rfl) ?_
   refine Da 2 rfl (y_move rfl) ?_
   first | refine Da 3 rfl (y_ixD rfl rfl _ rfl) ?_ | refine Da 3 rfl (y_ixP rfl rfl _ rfl) ?_
   refine Dt 4 [15] rfl (y_lIS rfl) ?_
   refine Da 6 rfl (y_move rfl) ?_
   refine Dt 8 [15] rfl (y_lOS rfl) ?_
   refine Da 9 rfl (y_move rfl) ?_
   refine Da 12 rfl (y_move rfl) ?_
   refine d_lits0 5 rfl (by kernel_rfl) rfl .free rfl (.inr heldx) ?_
   intro b55
   refine d_appendB 7 (B := some (b55, [])) (xs := []) (ys := bd.map sv) (m := 0) (c := 0) rfl (by kernel_rfl) rfl (by intro kk; simp) (by rfl) rfl rfl ⟨rfl, Nat.le_refl _, rfl⟩ (fun _ h => h) (by simp) hbd.reads hbd.none (sv_plain bd) (by decide) (by omega) (by decide) .free rfl (fun _ => .inr heldx) ?_
   intro B1 c1' hB1
   refine d_call 10 rfl (by kernel_rfl) rfl rfl .free rfl (g_l2Binds hf.rep hok0 hb _ (by rw [hki]; decide) _) ?_
   rintro _ J1 _ e1 ⟨o1, k1, rfl, hs1, rfl⟩
   have hbd1 := hbd.mono e1
   refine ⟨(.inr heldx), ?_⟩
   refine d_appendB 11 (B := B1) (xs := bd.map sv) (ys := (Ex.binds _ _).map sv) (m := 0 + bd.length) (c := c1') rfl (by kernel_rfl) rfl (by intro kk; simp) (by rfl) rfl rfl hB1 (fun _ h => h) (by simp) hs1.reads hs1.none (sv_plain _) (by decide) (Ex.binds_room1 (by omega)) (by decide) .free rfl (fun _ => .inr heldx) ?_
   intro B2 c2' hB2
   rw [← List.map_append] at hB2 ⊢
   refine d_freezeStrs (l := bd ++ Ex.binds _ _) hB2 (by simp) (by rw [List.length_append]; exact Ex.binds_room0 (by omega)) (hbd1.append hs1) ?_
   intro J3 o3 k3 ez hbv hs3
   refine d_put (t := 61) rfl hbv ?_
   have e4 := e1.trans ez
   have hf3 := hf.mono e4
   refine d_mem (fun w h => h.u1) ?_
   refine d_call 13 rfl (by kernel_rfl) rfl rfl .free rfl (ihn (by omega) (hf3.as 1 a.tree (by omega) rfl) hok hs3 (Ex.binds_room (by omega)) _ _ _ (by omega) hB _) ?_
   rintro _ J4 _ e5 ⟨B, c, rfl, hB, rfl⟩
   have e6 := e4.trans e5
   refine ⟨(.inr heldx), ?_⟩
   refine d_mem (fun w h => h.w1) ?_
   have hf := hf.mono e6
   have hbd := hbd.mono e6
   have hle := hle.trans e6
   refine Da 14 rfl (y_assign rfl) ?_
   refine d_done (by kernel_rfl) ?_
   refine s_inBlock (o_enter rfl (Om rfl ?_))
   refine Or rfl rfl rfl ?_
   refine Oa rfl (o_done ?_)
   refine s_round ?_
   refine s_seq (Se rfl (Om rfl (Om rfl (Oc rfl rfl rfl (o_done ?_)))))
   refine s_condF rfl (by first | rfl | decide | (simp; done) | omega) ?_
   refine s_exit rfl ?_
   refine Se rfl (Om rfl (Oa rfl (o_done (s_ret (.tmp rfl .nil) ?_))))
   exact ⟨_, _, hle, fun w h => h.drop, B, c, by simp [Ex.occ, Ex.binds, addAll_append, retOne], by simpa [Ex.occ, Ex.binds, addAll_append] using hB, by simp [Ex.occ, Ex.binds, addAll_append]⟩

def freeOf (s : Txt) : Option (List Txt) := (exOf s).map Ex.free
/-- A closed expression. -/
def closedOf (s : Txt) : Option Ex := match exOf s with
 | some e => if e.closed = true then some e else none
 | none => none
def EF (o : Option (List Txt)) (L : Own) : Post := fun v I' L' => ∃ oa c, v = .tuple #[.slice oa (o.getD []).length c, .bool o.isSome] ∧ Strs I' oa (o.getD []) c ∧ L = L'
theorem fine_size {e : Ex} (h : e.fine = true) : e.size ≤ 120 := by
 simp only [Ex.fine, Bool.and_eq_true, decide_eq_true_eq] at h; exact h.1.2
theorem exOf_size {s : Txt} {e : Ex} (h : exOf s = some e) : e.size ≤ 120 := fine_size (exOf_some h).2.1
theorem g_ExprFree (s : Txt) (hs : s.length ≤ maxL) (I : Heap) (L : Own) : Fun Tryz.prog 68 [.string (str s)] I L (EF (freeOf s) L) := by
 refine fun_intro (by simp) ?_
 refine Se rfl (Oa rfl (Oa rfl (o_done (Se rfl (Om rfl ?_)))))
 refine o_call rfl .free rfl (g_l2Parse' s hs _ _) ?_
 rintro _ J _ hleJ ⟨t, cs, ok, rfl, hrep, rfl, hpf⟩
 obtain ⟨oa, cc, vs, rfl, -⟩ := hrep.open
 refine Om rfl (Oe rfl rfl (Oe rfl rfl ?_))
 refine o_alloc .free rfl ?_
 intro b4
 refine o_st rfl rfl rfl rfl .free ?_
 refine Oa rfl (o_done (s_seq (Se rfl (Om rfl ?_))))
 refine o_not rfl .free rfl ?_
 refine o_done ?_
 refine s_cond rfl ?_ ?_
 ·intro c0
  try simp only [nb] at c0
  refine Se rfl ?_
  refine o_lits0 .free rfl ?_
  intro b13
  refine Oa rfl (Oa rfl (o_done ?_))
  refine s_ret (.tmp rfl (.tmp rfl .nil)) ?_
  exact ⟨J, L, hleJ, fun w h => h.drop.drop, some ⟨b13, 0, none⟩, 0, by rw [freeOf, RX_none hpf c0]; rfl, by rw [freeOf, RX_none hpf c0]; exact strs_empty _ _, rfl⟩
 intro c0
 try simp only [nb] at c0
 obtain ⟨e, he, rfl, hok, -⟩ := RX_some hpf c0
 have hez := exOf_size he
 refine s_skip (Se rfl ?_)
 refine o_lOS rfl .free rfl ?_
 refine o_lits0 .free rfl ?_
 intro b15
 refine o_lits0 .free rfl ?_
 intro b16
 refine o_mem (L' := bufOwn 9 (([] : List Txt).map sv) (some (b16, [])) ++ _) (fun w h => h) ?_
 refine o_call rfl .free rfl (g_l2Free _ (Nat.lt_succ_self _) hrep hok (strs_empty _ _) (by unfold maxN; simp; omega) [] (some (b16, [])) 0 (by simp; omega) ⟨rfl, Nat.le_refl _, rfl⟩ _) ?_
 rintro _ J2 _ e2 ⟨B, c, rfl, hB, rfl⟩
 refine Oa rfl (Oa rfl (o_done ?_))
 have hll := addAll_len [] (e.occ [])
 have hol := e.occ_len []
 simp only [List.length_nil, Nat.zero_add] at hll
 have hnm : ∀ z ∈ addAll [] (e.occ []), isName z = true := fun z hz => Ex.occ_name hok z (by simpa [addAll_mem] using hz)
 refine s_freezeStrs hB rfl (by unfold maxN; omega) (names_strs hnm) ?_
 intro J3 oz cz ez hbv hst
 refine s_put (t := 2) rfl hbv ?_
 refine s_ret (.tmp rfl (.tmp rfl .nil)) ?_
 exact ⟨J3, L, (hleJ.trans e2).trans ez, drops, oz, cz, by rw [freeOf, he]; rfl, by rw [freeOf, he]; exact hst, rfl⟩

theorem closedOf_free (s : Txt) : (closedOf s).isSome = ((freeOf s).isSome && decide ((freeOf s).getD [] = [])) := by
 unfold closedOf freeOf
 cases exOf s with
 | none => rfl
 | some e =>
  simp only [Option.map_some, Option.isSome_some, Option.getD_some, Bool.true_and]
  rw [← Ex.closed_free]
  cases e.closed <;> rfl
theorem closedOf_some {s : Txt} {e : Ex} (h : closedOf s = some e) : exOf s = some e ∧ e.closed = true := by
 unfold closedOf at h
 cases hx : exOf s with
 | none => rw [hx] at h; cases h
 | some e' =>
  rw [hx] at h
  simp only at h
  split at h
  ·rename_i hc; cases h; exact ⟨rfl, hc⟩
  ·cases h
theorem g_ExprClosed (s : Txt) (hs : s.length ≤ maxL) (I : Heap) (L : Own) : Fun Tryz.prog 35 [.string (str s)] I L (Only (.bool (closedOf s).isSome) I L) := by
 refine fun_intro (by simp) ?_
 refine Se rfl (Oa rfl (o_done (Se rfl (Om rfl ?_))))
 refine o_call rfl .free rfl (g_ExprFree s hs _ _) ?_
 rintro _ J _ hleJ ⟨oa, c, rfl, hst, rfl⟩
 refine Om rfl (Oe rfl rfl (Oe rfl rfl (Oa rfl (Oa rfl (o_done (Se rfl (Om rfl (Om rfl ?_))))))))
 apply o_and 11 15 rfl
 ·intro g2_2 hk
  try simp only [nb] at g2_2
  refine Ow rfl ?_
  refine o_len_slice rfl (.met rfl rfl) rfl ?_
  refine o_cmp rfl rfl rfl (.met rfl rfl) rfl ?_
  refine Ot rfl rfl ?_
  exact o_fin 3 rfl rfl hk
 ·intro _ hk
  refine o_skips 3 rfl ?_
  refine Of rfl rfl ?_
  exact o_fin 3 rfl rfl hk
 refine Oa rfl (o_done (s_ret (.tmp rfl .nil) ?_))
 refine done_fgt hleJ drops ?_
 rw [closedOf_free]
 refine congrArg Value.bool ?_
 rw [Bool.eq_iff_iff]; simp
theorem f_free_rx {I : Heap} {s : Txt} {t : Tree} {cs : List Value} {ok : Bool} (h : Rep I t cs) (hpf : match exOf s with | some e => ok = true ∧ t = e.tree | none => ok = false) (hok : ok = true) (L : Own) :
  Fun Tryz.prog 62 [.agg cs.toArray] I L (SS ((freeOf s).getD []) L) := by
 obtain ⟨e, he, rfl, h1, _⟩ := RX_some hpf hok
 have hez := exOf_size he
 rw [freeOf, he]; exact f_form_freeNames h h1 (by omega) L
theorem f_readClosed (s : Txt) (hs : s.length ≤ maxN) (I : Heap) (L : Own) : Fun Tryz.prog 31 [.string (str s)] I L (RX (closedOf s) L) := by
 refine fun_intro (by simp) ?_
 refine Se rfl ?_
 refine o_alloc .free rfl ?_
 intro b2
 refine Oa rfl (o_done (Se rfl (Om rfl ?_)))
 refine o_call rfl .free rfl (f_readExpr s hs _ _) ?_
 rintro _ J _ hleJ ⟨t, cs, ok, rfl, hrep, rfl, hpf⟩
 obtain ⟨oa, cc, vs, rfl, -⟩ := hrep.open
 refine Om rfl (Oe rfl rfl (Oe rfl rfl ?_))
 refine o_alloc .free rfl ?_
 intro b4
 refine o_st rfl rfl rfl rfl .free ?_
 refine Oa rfl (o_done (s_seq ?_))
 refine d_all 10 rfl rfl ?_
 refine Dt 0 [8] rfl (y_lOS rfl) ?_
 refine Da 1 rfl (y_move rfl) ?_
 refine Da 2 rfl (y_move rfl) ?_
 apply d_and 13 18 rfl
 ·intro g2_3 hk
  try simp only [nb] at g2_3
  refine d_take 3 [4, 8] rfl (by kernel_rfl) rfl heldx (y_lOS rfl) (.met rfl rfl) rfl ?_
  refine d_call 4 rfl (by kernel_rfl) rfl rfl (.met rfl rfl) rfl (f_free_rx hrep hpf g2_3 _) ?_
  rintro _ J2 _ e2 ⟨oz, cz, rfl, hst, rfl⟩
  refine ⟨(.inr heldx), ?_⟩
  refine d_takeA 5 rfl (by kernel_rfl) rfl (.inr heldx) (y_len_slice rfl) (.met rfl rfl) rfl ?_
  refine d_mem (fun w h => Mem.le e2 h) ?_
  refine d_takeA 6 rfl (by kernel_rfl) rfl (.inr heldx) (y_cmp rfl rfl rfl) (.met rfl rfl) rfl ?_
  refine Da 7 rfl (y_pick_true rfl rfl) ?_
  exact d_fin 4 rfl rfl hk
 ·intro _ hk
  refine Ds 3 rfl rfl rfl ?_
  refine Ds 4 rfl rfl rfl ?_
  refine Ds 5 rfl rfl rfl ?_
  refine Ds 6 rfl rfl rfl ?_
  refine Da 7 rfl (y_pick_false rfl rfl) ?_
  exact d_fin 4 rfl rfl hk
 refine d_st 8 rfl (by kernel_rfl) rfl rfl rfl rfl rfl .free (.inl (by kernel_rfl)) ?_
 refine d_takeA 9 rfl (by kernel_rfl) rfl (.inl (by kernel_rfl)) (y_assign rfl) .free rfl ?_
 refine d_done (by kernel_rfl) ?_
 refine s_ret (.c rfl (.tmp rfl .nil)) ?_
 refine ⟨J, L, hleJ, drops, t, _, _, rfl, hrep, rfl, ?_⟩
 have hcf := closedOf_free s
 cases hc : closedOf s with
 | some e =>
  obtain ⟨he, hcl⟩ := closedOf_some hc
  rw [he] at hpf
  rw [hc] at hcf
  simp only [Option.isSome_some, Bool.true_eq, Bool.and_eq_true, decide_eq_true_eq] at hcf
  exact ⟨by rw [hpf.1, hcf.2]; rfl, hpf.2⟩
 | none =>
  rw [hc] at hcf
  cases ok with
  | false => rfl
  | true =>
   obtain ⟨e, he, _⟩ := RX_some hpf rfl
   simp only [freeOf, he, Option.map_some, Option.isSome_some, Option.isSome_none, Option.getD_some, Bool.true_and] at hcf ⊢
   have h1 : e.free ≠ [] := by simpa using hcf.symm
   have h2 := List.length_pos_iff.2 h1
   exact decide_eq_false (by omega)
end Go.Proofs.YtfddjcmeejjhiaaGreatDoor
