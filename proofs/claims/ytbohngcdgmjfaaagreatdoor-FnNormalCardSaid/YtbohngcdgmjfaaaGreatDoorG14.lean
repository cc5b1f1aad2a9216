/- Expressions that are alike: names that are bound told by their places. No conditions. -/
import Derived.Test.YtbohngcdgmjfaaaGreatDoorG13
import Derived.Shelf.Strconv.Itoa3
import Derived.Test.YtbohngcdgmjfaaaGreatDoorProg

namespace Go.Proofs.YtbohngcdgmjfaaaGreatDoor
set_option maxRecDepth 100000
set_option linter.unusedVariables false
set_option linter.unusedSimpArgs false

theorem Kp (l : List Am) (y : Am) : ∀ (a : List Am), Br (l ++ a) y = match Br a y with | some i => some (l.length + i) | none => Br l y := by
 intro a
 induction a generalizing l with
 | nil => rw [List.append_nil]; rfl
 | cons x a ih =>
  have h1 := ih (l ++ [x])
  have h2 := ih [x]
  rw [List.append_assoc] at h1
  simp only [List.cons_append, List.nil_append] at h1 h2
  rw [h1, h2, Ko]
  have h3 := Ko [] x y
  simp only [List.nil_append, List.length_nil] at h3
  rw [h3]
  cases Br a y with
  | some i => simp only [List.length_append, List.length_cons, List.length_nil]; congr 1; omega
  | none =>
   simp only
   by_cases e : x = y
   ·rw [if_pos e, if_pos e]; simp
   ·rw [if_neg e, if_neg e]; rfl
theorem Lo {l : List Am} {y : Am} {i : Nat} (h : Br l y = some i) : i < l.length ∧ l.getD i [] = y := Jf h
theorem Fd {l : List Am} {y : Am} : Br l y = none ↔ y ∉ l := by
 induction l with
 | nil => simp [Br, E8]
 | cons x l ih =>
  have h := Kp [x] y l
  simp only [List.cons_append, List.nil_append] at h
  rw [h]
  have h3 := Ko [] x y
  simp only [List.nil_append, List.length_nil] at h3
  rw [h3]
  cases hl : Br l y with
  | some i =>
   have := He hl
   simp [this]
  | none =>
   rw [hl] at ih
   have h4 : y ∉ l := ih.1 rfl
   by_cases e : x = y
   ·simp [e]
   ·rw [if_neg e]
    simp only [List.mem_cons, not_or]
    exact ⟨fun _ => ⟨fun e' => e e'.symm, h4⟩, fun _ => rfl⟩
theorem Qm {l : List Am} (h : l.Nodup) {i : Nat} (hi : i < l.length) : Br l (l.getD i []) = some i := by
 cases hx : Br l (l.getD i []) with
 | none =>
  rw [Fd] at hx
  exact absurd (by rw [show l.getD i [] = l[i] by simp [hi]]; exact List.getElem_mem hi) hx
 | some j =>
  obtain ⟨h1, h2⟩ := Lo hx; rw [show l.getD j [] = l[j] by simp [h1], show l.getD i [] = l[i] by simp [hi]] at h2; rw [(List.getElem_inj h).1 h2]
def bnd (i : Nat) : Am := 0 :: List.replicate i 0
theorem Rz {i j : Nat} (h : bnd i = bnd j) : i = j := by
 have := congrArg List.length h
 simpa [bnd] using this
theorem Te (i : Nat) : Bs (bnd i) = false := by simp [bnd, Bs, Mb]
theorem Mw {s : Am} (h : Bs s = true) (i : Nat) : bnd i ≠ s := fun e => by rw [← e, Te] at h; cases h
def Ex.db : Ex → List Am → Ex
 | .num s, _ => .num s
 | .name s, a => .name (match Br a s with | some i => bnd i | none => s)
 | .bin o a b, l => .bin o (a.db l) (b.db l)
 | .ite a b c, l => .ite (a.db l) (b.db l) (c.db l)
 | .lt x a b, l => .lt [] (a.db l) (b.db (l ++ [x]))
 | .fn g x s t b, l => .fn [] [] s t (b.db (l ++ [g, x]))
 | .un o a, l => .un o (a.db l)
def Ex.alk : Ex → Ex → List Am → List Am → Bool
 | .num s, .num t, _, _ => decide (s = t)
 | .name s, .name t, a, b => decide (Br a s = Br b t) && ((Br a s).isSome || decide (s = t))
 | .bin o p q, .bin o' p' q', a, b => decide (o.txt = o'.txt) && p.alk p' a b && q.alk q' a b
 | .ite p q r, .ite p' q' r', a, b => p.alk p' a b && q.alk q' a b && r.alk r' a b
 | .lt x p q, .lt x' p' q', a, b => p.alk p' a b && q.alk q' (a ++ [x]) (b ++ [x'])
 | .fn g x s t q, .fn g' x' s' t' q', a, b => decide (s = s') && decide (t = t') && q.alk q' (a ++ [g, x]) (b ++ [g', x'])
 | .un o p, .un o' p', a, b => decide (o.txt = o'.txt) && p.alk p' a b
 | _, _, _, _ => false
theorem B5.txt_iff {o o' : B5} : o.txt = o'.txt ↔ o = o' := ⟨B5.txt_inj, fun e => by rw [e]⟩
theorem U2.txt_iff {o o' : U2} : o.txt = o'.txt ↔ o = o' := ⟨U2.txt_inj, fun e => by rw [e]⟩
theorem Ex.alk_db : ∀ {e e' : Ex} {a b : List Am}, e.ok = true → e'.ok = true → (e.alk e' a b = true ↔ e.db a = e'.db b) := by
 intro e
 induction e with
 | num s => intro e' a b h h'; cases e' <;> simp [Ex.alk, Ex.db]
 | name s =>
  intro e' a b h h'
  cases e' <;> simp only [Ex.alk, Ex.db, reduceCtorEq, Bool.false_eq_true]
  rename_i t
  simp only [Ex.ok] at h h'
  simp only [Bool.and_eq_true, Bool.or_eq_true, decide_eq_true_eq, Ex.name.injEq]
  cases hs : Br a s with
  | none => cases ht : Br b t with
   | none => simp
   | some j => simp only [reduceCtorEq, false_and, false_iff]; exact fun e => Mw h j e.symm
  | some i => cases ht : Br b t with
   | none => simp only [reduceCtorEq, false_and, false_iff]; exact fun e => Mw h' i e
   | some j => simp only [Option.some.injEq, Option.isSome_some, true_or, and_true]; exact ⟨fun e => by rw [e], Rz⟩
 | bin o p q ih1 ih2 =>
  intro e' a b h h'
  cases e' <;> simp only [Ex.alk, Ex.db, reduceCtorEq, Bool.false_eq_true]
  simp only [Ex.ok, Bool.and_eq_true] at h h'
  simp only [Bool.and_eq_true, decide_eq_true_eq, Ex.bin.injEq, B5.txt_iff, ih1 h.1 h'.1, ih2 h.2 h'.2, and_assoc]
 | ite p q r ih1 ih2 ih3 =>
  intro e' a b h h'
  cases e' <;> simp only [Ex.alk, Ex.db, reduceCtorEq, Bool.false_eq_true]
  simp only [Ex.ok, Bool.and_eq_true] at h h'
  simp only [Bool.and_eq_true, Ex.ite.injEq, ih1 h.1.1 h'.1.1, ih2 h.1.2 h'.1.2, ih3 h.2 h'.2, and_assoc]
 | lt x p q ih1 ih2 =>
  intro e' a b h h'
  cases e' <;> simp only [Ex.alk, Ex.db, reduceCtorEq, Bool.false_eq_true]
  simp only [Ex.ok, Bool.and_eq_true] at h h'
  simp only [Bool.and_eq_true, Ex.lt.injEq, ih1 h.1.2 h'.1.2, ih2 h.2 h'.2, true_and]
 | fn g x s t q ih =>
  intro e' a b h h'
  cases e' <;> simp only [Ex.alk, Ex.db, reduceCtorEq, Bool.false_eq_true]
  simp only [Ex.ok, Bool.and_eq_true] at h h'
  simp only [Bool.and_eq_true, decide_eq_true_eq, Ex.fn.injEq, ih h.2 h'.2, true_and, and_assoc]
 | un o p ih =>
  intro e' a b h h'
  cases e' <;> simp only [Ex.alk, Ex.db, reduceCtorEq, Bool.false_eq_true]
  simp only [Ex.ok] at h h'
  simp only [Bool.and_eq_true, decide_eq_true_eq, Ex.un.injEq, U2.txt_iff, ih h h']
def freshT (av t : List Am) (n : Nat) : Prop := t.Nodup ∧ ∀ x ∈ t, x ∉ av ∧ ∃ k, k < n ∧ x = nm 120 k
theorem freshT.up {av t : List Am} {n m : Nat} (h : freshT av t n) (hm : n ≤ m) : freshT av t m := ⟨h.1, fun x hx => by obtain ⟨h1, k, h2, h3⟩ := h.2 x hx; exact ⟨h1, k, by omega, h3⟩⟩
theorem freshT.add {av t : List Am} {n k : Nat} (h : freshT av t n) (hk : n ≤ k) (ha : nm 120 k ∉ av) : freshT av (t ++ [nm 120 k]) (k + 1) := by
 refine ⟨?_, fun x hx => ?_⟩
 ·rw [List.nodup_append]; refine ⟨h.1, by simp, ?_⟩; intro x hx y hy e
  simp only [List.mem_singleton] at hy
  subst hy; subst e; obtain ⟨_, j, hj, e⟩ := h.2 _ hx
  have := Vm e
  omega
 ·rcases List.mem_append.1 hx with hx | hx
  ·obtain ⟨h1, j, h2, h3⟩ := h.2 x hx; exact ⟨h1, j, by omega, h3⟩
  ·simp only [List.mem_singleton] at hx; subst hx; exact ⟨ha, k, by omega, rfl⟩
theorem Ex.db_pl {av : List Am} : ∀ {e : Ex} {f t : List Am} {n : Nat}, f.length = t.length → freshT av t n → (∀ x ∈ e.occ f, x ∈ av) → (e.pl av f t n).1.db t = e.db f := by
 intro e
 induction e with
 | num s => intro f t n _ _ _; rfl
 | name s =>
  intro f t n hft hfr ho
  simp only [Ex.pl, Ex.db]
  cases hs : Br f s with
  | none =>
   have h1 : s ∉ f := Fd.1 hs
   have h2 := ho s (by simp [Ex.occ, h1])
   have h3 : Br t s = none := Fd.2 fun hm => (hfr.2 s hm).1 h2
   simp only [h3]
  | some i =>
   have h1 := (Lo hs).1
   simp only [Qm hfr.1 (show i < t.length by omega)]
 | bin o p q ih1 ih2 =>
  intro f t n hft hfr ho
  simp only [Ex.occ, List.mem_append] at ho
  simp only [Ex.pl, Ex.db, ih1 hft hfr fun x hx => ho x (.inl hx), ih2 hft (hfr.up (p.pl_hits av f t n).1) fun x hx => ho x (.inr hx)]
 | ite p q r ih1 ih2 ih3 =>
  intro f t n hft hfr ho
  simp only [Ex.occ, List.mem_append] at ho
  have h1 := (p.pl_hits av f t n).1
  have h2 := (q.pl_hits av f t (p.pl av f t n).2).1
  simp only [Ex.pl, Ex.db, ih1 hft hfr fun x hx => ho x (.inl (.inl hx)), ih2 hft (hfr.up h1) fun x hx => ho x (.inl (.inr hx)), ih3 hft (hfr.up (Nat.le_trans h1 h2)) fun x hx => ho x (.inr hx)]
 | lt x p q ih1 ih2 =>
  intro f t n hft hfr ho
  simp only [Ex.occ, List.mem_append] at ho
  obtain ⟨f1, f2, f3⟩ := Dq 120 av n
  have h1 := (p.pl_hits av f t (fr 120 av n + 1)).1
  simp only [Ex.pl, Ex.db, ih1 hft (hfr.up (show n ≤ fr 120 av n + 1 by omega)) fun x hx => ho x (.inl hx),
   ih2 (f := f ++ [x]) (t := t ++ [nm 120 (fr 120 av n)]) (by simp [hft]) ((hfr.add f2 f1).up h1) fun x hx => ho x (.inr hx)]
 | fn g x s u q ih =>
  intro f t n hft hfr ho
  simp only [Ex.occ] at ho
  obtain ⟨f1, f2, f3⟩ := Dq 120 av n; obtain ⟨g1, g2, g3⟩ := Dq 120 av (fr 120 av n + 1)
  have hh := ((hfr.add f2 f1).add g2 g1)
  rw [List.append_assoc] at hh
  simp only [List.cons_append, List.nil_append] at hh
  simp only [Ex.pl, Ex.db, ih (f := f ++ [g, x]) (t := t ++ [nm 120 (fr 120 av n), nm 120 (fr 120 av (fr 120 av n + 1))]) (by simp [hft]) hh ho]
 | un o p ih =>
  intro f t n hft hfr ho
  simp only [Ex.occ] at ho
  simp only [Ex.pl, Ex.db, ih hft hfr ho]
theorem Zk (e : Ex) : e.plain.db [] = e.db [] := Ex.db_pl rfl ⟨by simp, by simp⟩ fun x hx => Ex.free_mem.2 hx
def Ex.fv : Ex → List Am
 | .num _ => []
 | .name s => if Bs s = true then [s] else []
 | .bin _ a b => a.fv ++ b.fv
 | .ite a b c => a.fv ++ b.fv ++ c.fv
 | .lt _ a b => a.fv ++ b.fv
 | .fn _ _ _ _ b => b.fv
 | .un _ a => a.fv
theorem Ex.occ_db : ∀ {e : Ex} {a : List Am}, e.ok = true → e.occ a = (e.db a).fv := by
 intro e
 induction e with
 | num s => intro a _; rfl
 | name s =>
  intro a h
  simp only [Ex.ok] at h
  simp only [Ex.occ, Ex.db, Ex.fv]
  cases hs : Br a s with
  | none => simp only [if_pos h]; rw [if_neg (Fd.1 hs)]
  | some i => simp only [Te, Bool.false_eq_true, if_false]; rw [if_pos (He hs)]
 | bin o p q ih1 ih2 => intro a h; simp only [Ex.ok, Bool.and_eq_true] at h; simp only [Ex.occ, Ex.db, Ex.fv, ih1 h.1, ih2 h.2]
 | ite p q r ih1 ih2 ih3 => intro a h; simp only [Ex.ok, Bool.and_eq_true] at h; simp only [Ex.occ, Ex.db, Ex.fv, ih1 h.1.1, ih2 h.1.2, ih3 h.2]
 | lt x p q ih1 ih2 => intro a h; simp only [Ex.ok, Bool.and_eq_true] at h; simp only [Ex.occ, Ex.db, Ex.fv, ih1 h.1.2, ih2 h.2]
 | fn g x s u q ih => intro a h; simp only [Ex.ok, Bool.and_eq_true] at h; simp only [Ex.occ, Ex.db, Ex.fv, ih h.2]
 | un o p ih => intro a h; simp only [Ex.ok] at h; simp only [Ex.occ, Ex.db, Ex.fv, ih h]
def Ex.as (e e' : Ex) : Prop := e.db [] = e'.db []
theorem Ex.as.free {e e' : Ex} (h : e.as e') (ho : e.ok = true) (ho' : e'.ok = true) : e.free = e'.free ∧ e.occ [] = e'.occ [] := by
 have h1 : e.occ [] = e'.occ [] := by rw [Ex.occ_db ho, Ex.occ_db ho', show e.db [] = e'.db [] from h]
 exact ⟨by unfold Ex.free; rw [h1], h1⟩
theorem Ex.plain_as (e : Ex) : e.plain.as e := Zk e
theorem Ex.db_size : ∀ (e : Ex) (a : List Am), (e.db a).size = e.size ∧ (e.db a).tree.depth = e.tree.depth := by
 intro e
 induction e with
 | num s => intro a; exact ⟨rfl, rfl⟩
 | name s => intro a; exact ⟨rfl, rfl⟩
 | bin o p q ih1 ih2 => intro a; obtain ⟨h1, h2⟩ := ih1 a; obtain ⟨h3, h4⟩ := ih2 a; simp only [Ex.db, Ex.size, Ex.tree, Tree.depth, Dk, List.isEmpty_cons, cond_false, h1, h2, h3, h4, and_self]
 | ite p q r ih1 ih2 ih3 => intro a; obtain ⟨h1, h2⟩ := ih1 a; obtain ⟨h3, h4⟩ := ih2 a; obtain ⟨h5, h6⟩ := ih3 a; simp only [Ex.db, Ex.size, Ex.tree, Tree.depth, Dk, List.isEmpty_cons, cond_false, h1, h2, h3, h4, h5, h6, and_self]
 | lt x p q ih1 ih2 => intro a; obtain ⟨h1, h2⟩ := ih1 a; obtain ⟨h3, h4⟩ := ih2 (a ++ [x]); simp only [Ex.db, Ex.size, Ex.tree, Tree.depth, Dk, List.isEmpty_cons, List.isEmpty_nil, cond_true, cond_false, h1, h2, h3, h4, and_self]
 | fn g x s u q ih => intro a; obtain ⟨h1, h2⟩ := ih (a ++ [g, x]); simp only [Ex.db, Ex.size, Ex.tree, Tree.depth, Dk, List.isEmpty_cons, List.isEmpty_nil, cond_true, cond_false, h1, h2, and_self]
 | un o p ih => intro a; obtain ⟨h1, h2⟩ := ih a; simp only [Ex.db, Ex.size, Ex.tree, Tree.depth, Dk, List.isEmpty_cons, cond_false, h1, h2, and_self]
theorem Ex.as.size {e e' : Ex} (h : e.as e') : e.size = e'.size ∧ e.tree.depth = e'.tree.depth := by
 have h1 := e.db_size []
 have h2 := e'.db_size []
 rw [show e.db [] = e'.db [] from h] at h1
 exact ⟨h1.1.symm.trans h2.1, h1.2.symm.trans h2.2⟩
theorem Ex.db_in : ∀ {v : Ex} {a b c : List Am}, a.length = b.length → v.occ c = [] → v.db (a ++ c) = v.db (b ++ c) := by
 intro v
 induction v with
 | num s => intro a b c _ _; rfl
 | name s =>
  intro a b c hl h
  simp only [Ex.occ] at h
  have hc : s ∈ c := by
   by_cases hm : s ∈ c
   ·exact hm
   ·rw [if_neg hm] at h; cases h
  simp only [Ex.db, Kp]
  cases hs : Br c s with
  | none => exact absurd hc (Fd.1 hs)
  | some i => simp only [hl]
 | bin o p q ih1 ih2 => intro a b c hl h; simp only [Ex.occ, List.append_eq_nil_iff] at h; simp only [Ex.db, ih1 hl h.1, ih2 hl h.2]
 | ite p q r ih1 ih2 ih3 => intro a b c hl h; simp only [Ex.occ, List.append_eq_nil_iff] at h; simp only [Ex.db, ih1 hl h.1.1, ih2 hl h.1.2, ih3 hl h.2]
 | lt x p q ih1 ih2 => intro a b c hl h; simp only [Ex.occ, List.append_eq_nil_iff] at h; simp only [Ex.db, List.append_assoc, ih1 hl h.1, ih2 hl h.2]
 | fn g x s u q ih => intro a b c hl h; simp only [Ex.occ] at h; simp only [Ex.db, List.append_assoc, ih hl h]
 | un o p ih => intro a b c hl h; simp only [Ex.occ] at h; simp only [Ex.db, ih hl h]
theorem Ex.db_cl {v : Ex} (h : v.occ [] = []) {a b : List Am} (hl : a.length = b.length) : v.db a = v.db b := by
 have := Ex.db_in (v := v) (c := []) hl h
 simpa using this
def Ex.putIf (e : Ex) (n : Am) (v : Ex) (a : List Am) : Ex := if n ∈ a then e else e.put n v
theorem Zp {e : Ex} {n : Am} {v : Ex} {a : List Am} (h : n ∈ a) : e.putIf n v a = e := if_pos h
theorem K7 {e : Ex} {n : Am} {v : Ex} {a : List Am} (h : n ∉ a) : e.putIf n v a = e.put n v := if_neg h
theorem Xm (o : B5) (p q : Ex) (n : Am) (v : Ex) (a : List Am) : (Ex.bin o p q).putIf n v a = .bin o (p.putIf n v a) (q.putIf n v a) := by unfold Ex.putIf; split <;> rfl
theorem Xn (p q r : Ex) (n : Am) (v : Ex) (a : List Am) : (Ex.ite p q r).putIf n v a = .ite (p.putIf n v a) (q.putIf n v a) (r.putIf n v a) := by unfold Ex.putIf; split <;> rfl
theorem Zr (o : U2) (p : Ex) (n : Am) (v : Ex) (a : List Am) : (Ex.un o p).putIf n v a = .un o (p.putIf n v a) := by unfold Ex.putIf; split <;> rfl
theorem Zq (x : Am) (p q : Ex) (n : Am) (v : Ex) (a : List Am) : (Ex.lt x p q).putIf n v a = .lt x (p.putIf n v a) (q.putIf n v (a ++ [x])) := by
 unfold Ex.putIf
 simp only [List.mem_append, List.mem_singleton, Ex.put]
 by_cases h : n ∈ a
 ·simp [h]
 ·by_cases h2 : x = n
  ·subst h2; simp [h]
  ·have h3 : ¬ n = x := fun e => h2 e.symm
   simp [h, h2, h3]
theorem Zo (g x : Am) (s u : Ty) (q : Ex) (n : Am) (v : Ex) (a : List Am) : (Ex.fn g x s u q).putIf n v a = .fn g x s u (q.putIf n v (a ++ [g, x])) := by
 unfold Ex.putIf
 simp only [List.mem_append, List.mem_cons, List.not_mem_nil, or_false, Ex.put]
 by_cases h : n ∈ a
 ·simp [h]
 ·by_cases h2 : g = n ∨ x = n
  ·have : n = g ∨ n = x := h2.imp Eq.symm Eq.symm
   simp [h, h2, this]
  ·have : ¬ (n = g ∨ n = x) := fun e => h2 (e.imp Eq.symm Eq.symm)
   simp [h, h2, this]
theorem Ex.put_db {n : Am} {v : Ex} (hv : v.occ [] = []) : ∀ {e e' : Ex} {a b : List Am}, a.length = b.length → e.ok = true → e'.ok = true → e.db a = e'.db b → (e.putIf n v a).db a = (e'.putIf n v b).db b := by
 intro e
 induction e with
 | num s => intro e' a b hl h h' hd; cases e' <;> simp only [Ex.db, reduceCtorEq] at hd; cases hd; unfold Ex.putIf; split <;> split <;> rfl
 | name s =>
  intro e' a b hl h h' hd
  cases e' <;> simp only [Ex.db, reduceCtorEq] at hd
  rename_i s'
  simp only [Ex.ok] at h h'
  simp only [Ex.name.injEq] at hd
  cases hs : Br a s with
  | none => cases ht : Br b s' with
   | none =>
    rw [hs, ht] at hd; simp only at hd; subst hd
    have h1 := Fd.1 hs
    have h2 := Fd.1 ht
    by_cases e : s = n
    ·subst e; rw [K7 h1, K7 h2]
     simp only [Ex.put, if_true]
     exact Ex.db_cl hv hl
    ·have h3 : ∀ c, (Ex.name s).putIf n v c = .name s := fun c => by unfold Ex.putIf; split <;> simp [Ex.put, e]
     rw [h3, h3]; simp only [Ex.db, hs, ht]
   | some j => rw [hs, ht] at hd; exact absurd hd.symm (Mw h j)
  | some i => cases ht : Br b s' with
   | none => rw [hs, ht] at hd; exact absurd hd (Mw h' i)
   | some j =>
    rw [hs, ht] at hd
    have h3 : ∀ {c : List Am} {z : Am}, z ∈ c → (Ex.name z).putIf n v c = .name z := fun {c z} hz => by
     by_cases e : z = n
     ·subst e; exact Zp hz
     ·unfold Ex.putIf; split <;> simp [Ex.put, e]
    rw [h3 (He hs), h3 (He ht)]
    simp only [Ex.db, hs, ht, Rz hd]
 | bin o p q ih1 ih2 =>
  intro e' a b hl h h' hd
  cases e' <;> simp only [Ex.db, reduceCtorEq] at hd
  simp only [Ex.ok, Bool.and_eq_true] at h h'
  simp only [Ex.bin.injEq] at hd
  simp only [Xm, Ex.db, ih1 hl h.1 h'.1 hd.2.1, ih2 hl h.2 h'.2 hd.2.2, hd.1]
 | ite p q r ih1 ih2 ih3 =>
  intro e' a b hl h h' hd
  cases e' <;> simp only [Ex.db, reduceCtorEq] at hd
  simp only [Ex.ok, Bool.and_eq_true] at h h'
  simp only [Ex.ite.injEq] at hd
  simp only [Xn, Ex.db, ih1 hl h.1.1 h'.1.1 hd.1, ih2 hl h.1.2 h'.1.2 hd.2.1, ih3 hl h.2 h'.2 hd.2.2]
 | lt x p q ih1 ih2 =>
  intro e' a b hl h h' hd
  cases e' <;> simp only [Ex.db, reduceCtorEq] at hd
  rename_i x' p' q'
  simp only [Ex.ok, Bool.and_eq_true] at h h'
  simp only [Ex.lt.injEq] at hd
  simp only [Zq, Ex.db, ih1 hl h.1.2 h'.1.2 hd.2.1, ih2 (a := a ++ [x]) (b := b ++ [x']) (by simp [hl]) h.2 h'.2 hd.2.2]
 | fn g x s u q ih =>
  intro e' a b hl h h' hd
  cases e' <;> simp only [Ex.db, reduceCtorEq] at hd
  rename_i g' x' s' u' q'
  simp only [Ex.ok, Bool.and_eq_true] at h h'
  simp only [Ex.fn.injEq] at hd
  simp only [Zo, Ex.db, ih (a := a ++ [g, x]) (b := b ++ [g', x']) (by simp [hl]) h.2 h'.2 hd.2.2.2.2, hd.2.2.1, hd.2.2.2.1]
 | un o p ih =>
  intro e' a b hl h h' hd
  cases e' <;> simp only [Ex.db, reduceCtorEq] at hd
  simp only [Ex.ok] at h h'
  simp only [Ex.un.injEq] at hd
  simp only [Zr, Ex.db, ih hl h h' hd.2, hd.1]
theorem Ex.as.put {e e' : Ex} (h : e.as e') (ho : e.ok = true) (ho' : e'.ok = true) {n : Am} {v : Ex} (hv : v.occ [] = []) : (e.put n v).as (e'.put n v) := by
 have := Ex.put_db (n := n) hv (a := []) (b := []) rfl ho ho' h
 rwa [K7 (by simp), K7 (by simp)] at this
/- Types of alike expressions. -/
theorem ty_bin (o : B5) (a b : Ex) (l : List Am) (m : List Ty) : (Ex.bin o a b).ty l m = (a.ty l m).bind fun s => (b.ty l m).bind fun t => o.ty s t := by
 unfold Ex.ty; simp only [Ex.chk]
 cases a.chk l m with
 | error x => rfl
 | ok s => cases b.chk l m with
  | error x => rfl
  | ok t => simp only [Option.bind_some]; cases o.ty s t <;> rfl
theorem ty_ite (a b c : Ex) (l : List Am) (m : List Ty) : (Ex.ite a b c).ty l m = (a.ty l m).bind fun s => (b.ty l m).bind fun t => (c.ty l m).bind fun u => if s = .i ∧ t = u then some t else none := by
 unfold Ex.ty; simp only [Ex.chk]
 cases a.chk l m with
 | error x => rfl
 | ok s => cases b.chk l m with
  | error x => rfl
  | ok t => cases c.chk l m with
   | error x => rfl
   | ok u =>
    simp only [Option.bind_some]
    by_cases h : s = .i ∧ t = u
    ·rw [if_pos h, if_pos h]
    ·rw [if_neg h, if_neg h]
theorem ty_lt (x : Am) (a b : Ex) (l : List Am) (m : List Ty) : (Ex.lt x a b).ty l m = (a.ty l m).bind fun s => b.ty (l ++ [x]) (m ++ [s]) := by
 unfold Ex.ty; simp only [Ex.chk]
 cases a.chk l m <;> rfl
theorem ty_fn (f x : Am) (s t : Ty) (b : Ex) (l : List Am) (m : List Ty) : (Ex.fn f x s t b).ty l m = if (Ty.fn s t).size ≤ 16 then (b.ty (l ++ [f, x]) (m ++ [.fn s t, s])).bind fun u => if u = t then some (.fn s t) else none else none := by
 unfold Ex.ty; simp only [Ex.chk]
 by_cases h : (Ty.fn s t).size ≤ 16
 ·rw [if_pos h, if_pos h]
  cases b.chk (l ++ [f, x]) (m ++ [.fn s t, s]) with
  | error x => rfl
  | ok u =>
   simp only [Option.bind_some]
   by_cases h : u = t
   ·rw [if_pos h, if_pos h]
   ·rw [if_neg h, if_neg h]
 ·rw [if_neg h, if_neg h]
theorem ty_un (o : U2) (a : Ex) (l : List Am) (m : List Ty) : (Ex.un o a).ty l m = (a.ty l m).bind fun s => o.ty s := by
 unfold Ex.ty; simp only [Ex.chk]
 cases a.chk l m with
 | error x => rfl
 | ok s => simp only [Option.bind_some]; cases o.ty s <;> rfl
theorem ty_name (s : Am) (l : List Am) (m : List Ty) : (Ex.name s).ty l m = Ih l m s := by
 unfold Ex.ty; simp only [Ex.chk]
 cases Ih l m s <;> rfl
theorem Qb {l a : List Am} {m k : List Ty} (h : l.length = m.length) (s : Am) : Ih (l ++ a) (m ++ k) s = match Br a s with | some i => k[i]? | none => Ih l m s := by
 unfold Ih
 rw [Kp]
 cases hs : Br a s with
 | some i => simp only [Option.bind_some, h]; rw [List.getElem?_append_right (by omega)]; congr 1; omega
 | none =>
  simp only
  cases hi : Br l s with
  | none => rfl
  | some i =>
   have := (Lo hi).1
   simp only [Option.bind_some]; rw [List.getElem?_append_left (by omega)]
theorem Ex.ty_db {l : List Am} {m : List Ty} (hlm : l.length = m.length) : ∀ {e e' : Ex} {a b : List Am} {k : List Ty}, a.length = k.length → b.length = k.length → e.ok = true → e'.ok = true → e.db a = e'.db b → e.ty (l ++ a) (m ++ k) = e'.ty (l ++ b) (m ++ k) := by
 intro e
 induction e with
 | num s => intro e' a b k h1 h2 h h' hd; cases e' <;> simp only [Ex.db, reduceCtorEq] at hd; rfl
 | name s =>
  intro e' a b k h1 h2 h h' hd
  cases e' <;> simp only [Ex.db, reduceCtorEq] at hd
  rename_i s'
  simp only [Ex.ok] at h h'
  simp only [Ex.name.injEq] at hd
  rw [ty_name, ty_name, Qb hlm, Qb hlm]
  cases hs : Br a s with
  | none => cases ht : Br b s' with
   | none => rw [hs, ht] at hd; simp only at hd; subst hd; rfl
   | some j => rw [hs, ht] at hd; exact absurd hd.symm (Mw h j)
  | some i => cases ht : Br b s' with
   | none => rw [hs, ht] at hd; exact absurd hd (Mw h' i)
   | some j => rw [hs, ht] at hd; rw [Rz hd]
 | bin o p q ih1 ih2 =>
  intro e' a b k h1 h2 h h' hd
  cases e' <;> simp only [Ex.db, reduceCtorEq] at hd
  simp only [Ex.ok, Bool.and_eq_true] at h h'
  simp only [Ex.bin.injEq] at hd
  rw [ty_bin, ty_bin, ih1 h1 h2 h.1 h'.1 hd.2.1, ih2 h1 h2 h.2 h'.2 hd.2.2, hd.1]
 | ite p q r ih1 ih2 ih3 =>
  intro e' a b k h1 h2 h h' hd
  cases e' <;> simp only [Ex.db, reduceCtorEq] at hd
  simp only [Ex.ok, Bool.and_eq_true] at h h'
  simp only [Ex.ite.injEq] at hd
  rw [ty_ite, ty_ite, ih1 h1 h2 h.1.1 h'.1.1 hd.1, ih2 h1 h2 h.1.2 h'.1.2 hd.2.1, ih3 h1 h2 h.2 h'.2 hd.2.2]
 | lt x p q ih1 ih2 =>
  intro e' a b k h1 h2 h h' hd
  cases e' <;> simp only [Ex.db, reduceCtorEq] at hd
  rename_i x' p' q'
  simp only [Ex.ok, Bool.and_eq_true] at h h'
  simp only [Ex.lt.injEq] at hd
  rw [ty_lt, ty_lt, ih1 h1 h2 h.1.2 h'.1.2 hd.2.1]
  congr 1; funext s
  have := ih2 (a := a ++ [x]) (b := b ++ [x']) (k := k ++ [s]) (by simp [h1]) (by simp [h2]) h.2 h'.2 hd.2.2
  simpa only [List.append_assoc] using this
 | fn g x s u q ih =>
  intro e' a b k h1 h2 h h' hd
  cases e' <;> simp only [Ex.db, reduceCtorEq] at hd
  rename_i g' x' s' u' q'
  simp only [Ex.ok, Bool.and_eq_true] at h h'
  simp only [Ex.fn.injEq] at hd
  obtain ⟨-, -, rfl, rfl, hd⟩ := hd
  have := ih (a := a ++ [g, x]) (b := b ++ [g', x']) (k := k ++ [.fn s u, s]) (by simp [h1]) (by simp [h2]) h.2 h'.2 hd
  simp only [← List.append_assoc] at this
  rw [ty_fn, ty_fn, this]
 | un o p ih =>
  intro e' a b k h1 h2 h h' hd
  cases e' <;> simp only [Ex.db, reduceCtorEq] at hd
  simp only [Ex.ok] at h h'
  simp only [Ex.un.injEq] at hd
  rw [ty_un, ty_un, ih h1 h2 h h' hd.2, hd.1]
theorem Ex.as.ty {e e' : Ex} (h : e.as e') (ho : e.ok = true) (ho' : e'.ok = true) {l : List Am} {m : List Ty} (hlm : l.length = m.length) : e.ty l m = e'.ty l m := by
 have := Ex.ty_db hlm (a := []) (b := []) (k := []) rfl rfl ho ho' h
 simpa using this
theorem Ex.as.hd {e e' : Ex} (h : e.as e') : e.hd = e'.hd := by
 have h : e.db [] = e'.db [] := h
 cases e <;> cases e' <;> simp only [Ex.db, reduceCtorEq] at h <;> first
  | rfl
  | (simp only [Ex.bin.injEq] at h; simp only [Ex.hd, h.1]; rfl)
  | (simp only [Ex.un.injEq] at h; simp only [Ex.hd, h.1]; rfl)
theorem Ex.as.symm {e e' : Ex} (h : e.as e') : e'.as e := Eq.symm h
theorem Ex.as.trans {e e' e'' : Ex} (h : e.as e') (h' : e'.as e'') : e.as e'' := Eq.trans h h'
def nul : Ex := .num [48]
def Ex.puts (e : Ex) (l : List Am) : Ex := l.foldl (fun e n => e.put n nul) e
def Ab0 (s n : Am) : Int := match Ea s with
 | some e => if Bs n = true then (((e.occ []).count n : Nat) : Int) else -1
 | none => -1
def Im (a b : Am) : Bool := match Ea a, Ea b with
 | some e, some f => e.alk f [] []
 | _, _ => false
theorem L2 {a b : Am} {e f : Ex} (h : Ea a = some e) (h' : Ea b = some f) : Im a b = e.alk f [] [] := by unfold Im; rw [h, h']
theorem L1 {a b : Am} (h : Ea a = none ∨ Ea b = none) : Im a b = false := by
 unfold Im
 rcases h with h | h
 ·rw [h]
 ·rw [h]; cases Ea a <;> rfl
theorem U8 {a b : Am} {e f : Ex} (h : Ea a = some e) (h' : Ea b = some f) : Im a b = true ↔ e.as f := by
 rw [L2 h h']
 exact Ex.alk_db (Hw h).2.1 (Hw h').2.1
theorem Vc {s : Am} {e : Ex} (h : Ea s = some e) : Ea e.plain.tree.text = some e.plain := Ws (Fx (Hw h).1)
theorem Ex.alk_head {e f : Ex} {a b : List Am} (h : e.alk f a b = true) : e.tree.head = f.tree.head ∧ e.tree.parts.length = f.tree.parts.length ∧ e.bare = f.bare := by
 cases e <;> cases f <;> simp only [Ex.alk, Bool.false_eq_true, Bool.and_eq_true, decide_eq_true_eq] at h <;> first
  | exact ⟨rfl, rfl, rfl⟩
  | exact ⟨h.1.1, rfl, rfl⟩
  | exact ⟨h.1, rfl, rfl⟩
theorem Ex.same_shape {e f : Ex} (he : e.bare = false) (hf : f.bare = false) (h : e.tree.head = f.tree.head) : (∃ o a b a' b', e = .bin o a b ∧ f = .bin o a' b') ∨ (∃ a b c a' b' c', e = .ite a b c ∧ f = .ite a' b' c') ∨ (∃ x a b x' a' b', e = .lt x a b ∧ f = .lt x' a' b') ∨
  (∃ g x s t b g' x' s' t' b', e = .fn g x s t b ∧ f = .fn g' x' s' t' b') ∨ (∃ o a a', e = .un o a ∧ f = .un o a') := by
 cases e with
 | num s => cases he
 | name s => cases he
 | bin o a b =>
  cases f with
  | num s => cases hf
  | name s => cases hf
  | bin o' a' b' => obtain rfl := B5.txt_inj (show o.txt = o'.txt from h); exact .inl ⟨o, a, b, a', b', rfl, rfl⟩
  | ite a' b' c' => exact absurd (show o.txt = E9 from h) o.txt_ne.1
  | lt x a' b' => exact absurd (show o.txt = Cw from h) o.txt_ne.2.1
  | fn g x s t b' => exact absurd (show o.txt = Cq from h) o.txt_ne.2.2.1
  | un u a' => exact absurd (show o.txt = u.txt from h) (Aas o u)
 | ite a b c =>
  cases f with
  | num s => cases hf
  | name s => cases hf
  | bin o' a' b' => exact absurd (show E9 = o'.txt from h).symm o'.txt_ne.1
  | ite a' b' c' => exact .inr (.inl ⟨a, b, c, a', b', c', rfl, rfl⟩)
  | lt x a' b' => exact absurd (show E9 = Cw from h) (by decide)
  | fn g x s t b' => exact absurd (show E9 = Cq from h) (by decide)
  | un u a' => exact absurd (show E9 = u.txt from h).symm u.txt_ne.1
 | lt x a b =>
  cases f with
  | num s => cases hf
  | name s => cases hf
  | bin o' a' b' => exact absurd (show Cw = o'.txt from h).symm o'.txt_ne.2.1
  | ite a' b' c' => exact absurd (show Cw = E9 from h) (by decide)
  | lt x' a' b' => exact .inr (.inr (.inl ⟨x, a, b, x', a', b', rfl, rfl⟩))
  | fn g x s t b' => exact absurd (show Cw = Cq from h) (by decide)
  | un u a' => exact absurd (show Cw = u.txt from h).symm u.txt_ne.2.1
 | fn g x s t b =>
  cases f with
  | num s => cases hf
  | name s => cases hf
  | bin o' a' b' => exact absurd (show Cq = o'.txt from h).symm o'.txt_ne.2.2.1
  | ite a' b' c' => exact absurd (show Cq = E9 from h) (by decide)
  | lt x a' b' => exact absurd (show Cq = Cw from h) (by decide)
  | fn g' x' s' t' b' => exact .inr (.inr (.inr (.inl ⟨g, x, s, t, b, g', x', s', t', b', rfl, rfl⟩)))
  | un u a' => exact absurd (show Cq = u.txt from h).symm u.txt_ne.2.2.1
 | un u a =>
  cases f with
  | num s => cases hf
  | name s => cases hf
  | bin o' a' b' => exact absurd (show o'.txt = u.txt from h.symm) (Aas o' u)
  | ite a' b' c' => exact absurd (show u.txt = E9 from h) u.txt_ne.1
  | lt x a' b' => exact absurd (show u.txt = Cw from h) u.txt_ne.2.1
  | fn g x s t b' => exact absurd (show u.txt = Cq from h) u.txt_ne.2.2.1
  | un u' a' => obtain rfl := U2.txt_inj (show u.txt = u'.txt from h); exact .inr (.inr (.inr (.inr ⟨u, a, a', rfl, rfl⟩)))
theorem Wo {e f : Ex} {a b : List Am} (he : e.bare = true) (hf : f.bare = true) (hoe : e.ok = true) (hof : f.ok = true) (ha : namesL a) (hb : namesL b) :
  e.alk f a b = (decide (Hr (Br a e.tree.atom) = Hr (Br b f.tree.atom)) && (decide (0 ≤ Hr (Br a e.tree.atom)) || decide (e.tree.atom = f.tree.atom))) := by
 have hnum : ∀ {l : List Am} {s : Am}, namesL l → Cr s = true → Br l s = none := fun {l s} hl hs => Fd.2 fun hm => by
  have := Fe (hl s hm); rw [hs] at this; cases this
 have hix : ∀ {x y : Option Nat}, Hr x = Hr y ↔ x = y := fun {x y} => by
  cases x <;> cases y <;> simp [Hr] <;> omega
 have hi0 : ∀ {x : Option Nat}, (0 ≤ Hr x) ↔ x.isSome = true := fun {x} => by cases x <;> simp [Hr]
 cases e with
 | num s =>
  have h1 := hnum ha (show Cr s = true from hoe)
  cases f with
  | num t =>
   have h2 := hnum hb (show Cr t = true from hof)
   simp only [Ex.alk, show (Ex.num s).tree.atom = s from rfl, show (Ex.num t).tree.atom = t from rfl, h1, h2]
   simp [Hr]
  | name t =>
   simp only [Ex.alk, show (Ex.num s).tree.atom = s from rfl, show (Ex.name t).tree.atom = t from rfl, h1, hix, hi0]
   have : ¬ s = t := fun e => by
    have := Fe (show Bs t = true from hof); rw [← e, show Cr s = true from hoe] at this; cases this
   simp [this]
  | _ => cases hf
 | name s =>
  cases f with
  | num t =>
   have h2 := hnum hb (show Cr t = true from hof)
   simp only [Ex.alk, show (Ex.name s).tree.atom = s from rfl, show (Ex.num t).tree.atom = t from rfl, h2, hix, hi0]
   have : ¬ s = t := fun e => by
    have := Fe (show Bs s = true from hoe); rw [e, show Cr t = true from hof] at this; cases this
   cases Br a s <;> simp [this]
  | name t =>
   simp only [Ex.alk, show (Ex.name s).tree.atom = s from rfl, show (Ex.name t).tree.atom = t from rfl, hix, hi0]
   cases Br a s <;> simp
  | _ => cases hf
 | _ => cases he
theorem V4 {e f : Ex} {a b : List Am} (h : e.bare ≠ f.bare) : e.alk f a b = false := by
 cases hx : e.alk f a b with
 | false => rfl
 | true => exact absurd (Ex.alk_head hx).2.2 h
def AL (x : Bool) (L : Bc) : C3 := fun v I' L' => v = .bool x ∧ L = L'
set_option maxHeartbeats 2000000 in
theorem Z9 : ∀ (n : Nat) {I : Heap} {e e' : Ex} {cs ds : List Value} (_ : SizeOf.sizeOf e < n) (_ : Rep I e.tree cs) (_ : e.ok = true) (_ : Rep I e'.tree ds) (_ : e'.ok = true) {f t : List Am} {of ot : Option Addr} {cf ct : Nat} (_ : Strs I of f cf) (_ : Strs I ot t ct) (_ : namesL f) (_ : namesL t)
  (_ : f.length + 2 * e.size ≤ 100000) (_ : t.length + 2 * e'.size ≤ 100000) (L : Bc),
  Fun Tryz.prog 18 [.agg cs.toArray, .agg ds.toArray, .slice of f.length cf, .slice ot t.length ct] I L (AL (e.alk e' f t) L) := by
 intro n
 induction n with
 | zero => intro I e e' cs ds h; omega
 | succ n ihn =>
  intro I e e' cs ds hlt h hok h' hok' f t of ot cf ct hfr hto hnf hnt hfl htl L; obtain ⟨oa, c, oaf, cf1, rfl, hf⟩ := h.at'; obtain ⟨ob, cb, obf, cb1, rfl, hg⟩ := h'.at'
  have hle : HLe I I := .refl _
  have ha := hf.alen
  have hb := hg.alen
  refine Aj (by simp) ?_; refine Se rfl ?_; refine Cc rfl rfl .free rfl ?_; intro b4; refine Cc rfl rfl .free rfl ?_; intro b5; refine Oa rfl (Aa (Ab (Se rfl ?_))); refine Aw rfl .free rfl ?_; refine Ca rfl (B7 hf.rep _) ?_; rintro _ _ _ _ ⟨rfl, rfl, rfl⟩; refine Om rfl ?_
  apply Fw 15 18 rfl
  ·intro g1_3 hk
   try simp only [nb] at g1_3
   refine Aw rfl (.met rfl rfl) rfl ?_; refine B6 rfl (.met rfl rfl) rfl (B7 hg.rep _) ?_; rintro _ _ _ _ ⟨rfl, rfl, rfl⟩; refine Of rfl rfl ?_
   exact A0 2 rfl rfl hk
  ·intro _ hk; refine A9 2 rfl ?_; refine Ot rfl rfl ?_
   exact A0 2 rfl rfl hk
  refine Aa ?_; refine Av rfl ?_ ?_
  ·intro c0
   try simp only [nb] at c0
   refine Ab ?_; refine Do 10 rfl rfl ?_; refine Da 0 rfl (Ac rfl) ?_; refine Da 1 rfl (Ae rfl) ?_; refine Dt 2 [10] rfl (A7 rfl) ?_; refine Da 4 rfl (Ac rfl) ?_; refine Da 5 rfl (Ae rfl) ?_; refine Dt 6 [10] rfl (A7 rfl) ?_; refine Dc 3 rfl rfl (Kk hfr e.tree.atom _) ?_; rintro _ _ _ _ ⟨rfl, rfl, rfl⟩; refine Hx ?_; refine Dc 7 rfl rfl (Kk hto e'.tree.atom _) ?_; rintro _ _ _ _ ⟨rfl, rfl, rfl⟩; refine Hx ?_; refine Da 8 rfl (Bh rfl) ?_; refine Da 9 rfl (Bh rfl) ?_; refine Au (by kernel_rfl) ?_; refine Se rfl ?_; refine Aw rfl .free rfl ?_; refine Ca rfl (B7 hf.rep _) ?_
   rintro _ _ _ _ ⟨rfl, rfl, rfl⟩; refine Om rfl ?_
   apply D4 29 32 rfl
   ·intro g3_3 hk
    try simp only [nb] at g3_3
    refine Aw rfl (.met rfl rfl) rfl ?_; refine B6 rfl (.met rfl rfl) rfl (B7 hg.rep _) ?_; rintro _ _ _ _ ⟨rfl, rfl, rfl⟩; refine Ot rfl rfl ?_
    exact A0 2 rfl rfl hk
   ·intro _ hk; refine A9 2 rfl ?_; refine Of rfl rfl ?_
    exact A0 2 rfl rfl hk
   refine Om rfl ?_
   apply D4 33 37 rfl
   ·intro g3_7 hk
    try simp only [nb] at g3_7
    refine Ow rfl (Ow rfl ?_); refine C7 rfl rfl rfl (.met rfl rfl) rfl ?_; refine Ot rfl rfl ?_
    exact A0 3 rfl rfl hk
   ·intro _ hk; refine A9 3 rfl ?_; refine Of rfl rfl ?_
    exact A0 3 rfl rfl hk
   refine Om rfl ?_
   apply D4 38 48 rfl
   ·intro g3_12 hk
    try simp only [nb] at g3_12
    refine Ow rfl ?_; refine C7 rfl rfl rfl (.met rfl rfl) rfl ?_; refine Ow rfl ?_
    apply Fw 41 47 rfl
    ·intro g3_15 hk
     try simp only [nb] at g3_15
     refine Bv rfl (.met rfl rfl) rfl ?_; refine Bg rfl (.met rfl rfl) rfl ?_; refine Bv rfl (.met rfl rfl) rfl ?_; refine Bg rfl (.met rfl rfl) rfl ?_; refine Fn rfl rfl rfl (.met rfl rfl) rfl ?_; refine C1 rfl rfl (.met rfl rfl) rfl ?_
     exact A0 5 rfl rfl hk
    ·intro _ hk; refine A9 5 rfl ?_; refine Dj rfl rfl (.met rfl rfl) rfl ?_
     exact A0 5 rfl rfl hk
    refine Ot rfl rfl ?_
    exact A0 4 rfl rfl hk
   ·intro _ hk; refine A9 9 rfl ?_; refine Of rfl rfl ?_
    exact A0 9 rfl rfl hk
   refine Oa rfl (Aa (Ag (.tmp rfl .nil) ?_)); refine ⟨I, L, .refl _, Bt, ?_, rfl⟩
   by_cases h1 : e.bare = true
   ·by_cases h2 : e'.bare = true
    ·rw [Wo h1 h2 hok hok' hnf hnt]; rw [Ex.bare_parts] at h1 h2
     simp [By, h1, h2]
    ·rw [V4 (by rw [h1]; exact fun e => h2 e.symm)]; rw [Ex.bare_parts] at h1 h2
     simp [By, h1, h2]
   ·rw [Ex.bare_parts] at h1
    by_cases h2 : e'.bare = true
    ·rw [V4 (by rw [h2, Ex.bare_parts]; exact h1)]
     simp [By, h1]
    ·rw [Ex.bare_parts] at h2
     exact absurd c0 (by simp [h1, h2])
  intro c0
  try simp only [nb] at c0
  have hbe : e.bare = false := by rw [Ex.bare_parts]; simpa using c0.1
  have hbe' : e'.bare = false := by rw [Ex.bare_parts]; simpa using c0.2
  refine Af (Ab (Ab ?_)); refine Do 14 rfl rfl ?_; refine Dt 0 [14] rfl (Cd rfl) ?_; refine Dt 2 [14] rfl (Cd rfl) ?_; refine Dc 1 rfl rfl (Bk hf.rep _) ?_; rintro _ _ _ _ ⟨rfl, rfl, rfl⟩; refine Hx ?_; refine Dc 3 rfl rfl (Bk hg.rep _) ?_; rintro _ _ _ _ ⟨rfl, rfl, rfl⟩; refine Hx ?_; refine Da 4 rfl (J8 rfl rfl rfl) ?_; refine Da 5 rfl (Ac rfl) ?_
  apply X6 54 62 rfl
  ·intro g4_6 hk
   try simp only [nb] at g4_6
   refine Dm 6 rfl (Ae rfl) ?_; refine El 7 [14] rfl (by kernel_rfl) rfl Al (A7 rfl) (.met rfl rfl) rfl ?_; refine Dm 8 rfl (D9 rfl) ?_; refine Dm 9 rfl (Ae rfl) ?_; refine El 10 [14] rfl (by kernel_rfl) rfl Al (A7 rfl) (.met rfl rfl) rfl ?_; refine Dm 11 rfl (D9 rfl) ?_; refine Dm 12 rfl (Iu rfl rfl rfl) ?_; refine Da 13 rfl (C9 rfl rfl) ?_
   exact F6 7 rfl rfl hk
  ·intro _ hk; refine Ds 6 rfl rfl rfl ?_; refine Ds 7 rfl rfl rfl ?_; refine Ds 8 rfl rfl rfl ?_; refine Ds 9 rfl rfl rfl ?_; refine Ds 10 rfl rfl rfl ?_; refine Ds 11 rfl rfl rfl ?_; refine Ds 12 rfl rfl rfl ?_; refine Da 13 rfl (D3 rfl rfl) ?_
   exact F6 7 rfl rfl hk
  refine Au (by kernel_rfl) ?_; refine Av rfl ?_ ?_
  ·intro c1
   try simp only [nb] at c1
   refine Se rfl (Oa rfl (Aa (Ag (.tmp rfl .nil) ?_))); refine ⟨I, L, .refl _, Bt, ?_, rfl⟩
   have hx : e.alk e' f t = false := by
    cases hx : e.alk e' f t with
    | false => rfl
    | true =>
     have hy := Ex.alk_head hx
     exact absurd c1 (by simp [hy.1, hy.2.1])
   rw [hx]; rfl
  intro c1
  try simp only [nb] at c1
  have hsh := Ex.same_shape hbe hbe' (by simpa using c1.1)
  have hok0 := hok
  have hok0' := hok'
  refine Af (Ab (Ab ?_))
  rcases hsh with ⟨o, a, b, a', b', rfl, rfl⟩ | ⟨a, b, d, a', b', d', rfl, rfl⟩ | ⟨z, a, b, z', a', b', rfl, rfl⟩ | ⟨h1, z, s, u, b, h1', z', s', u', b', rfl, rfl⟩ | ⟨o, a, a', rfl, rfl⟩
  ·skip
   have hlen : (Ex.bin o a b).tree.parts.length = 3 := rfl
   have hlen' : (Ex.bin o a' b').tree.parts.length = 3 := rfl
   have hki := Gb o a b
   have hhd : (Ex.bin o a b).tree.head = o.txt := rfl
   have hx3 : ¬ (Ex.bin o a b).tree.head = [102, 117, 110] := o.txt_ne.2.2.1
   have hx4 : ¬ (Ex.bin o a' b').tree.head = [102, 117, 110] := o.txt_ne.2.2.1
   simp only [Ex.bin.sizeOf_spec] at hlt
   simp only [Ex.ok, Bool.and_eq_true, decide_eq_true_eq] at hok hok'
   simp only [Ex.size] at hfl htl
   refine Do 27 rfl rfl ?_; refine Dt 0 [27] rfl (Cd rfl) ?_; refine Dc 1 rfl rfl (Bk hf.rep _) ?_; rintro _ _ _ _ ⟨rfl, rfl, rfl⟩; refine Hx ?_; refine Da 2 rfl (J8 rfl rfl rfl) ?_; refine Da 3 rfl (Ac rfl) ?_; refine E6 (t := 66) rfl (v' := .bool false) (by first | simp [*] | (simp; omega)) ?_; refine Ds 4 rfl rfl rfl ?_; refine Ds 5 rfl rfl rfl ?_; refine Ds 6 rfl rfl rfl ?_; refine Ds 7 rfl rfl rfl ?_; refine Ds 8 rfl rfl rfl ?_; refine Ds 9 rfl rfl rfl ?_; refine Ds 10 rfl rfl rfl ?_; refine Ds 11 rfl rfl rfl ?_; refine Ds 12 rfl rfl rfl ?_; refine Ds 13 rfl rfl rfl ?_
   refine Ds 14 rfl rfl rfl ?_; refine As 15 rfl (by kernel_rfl) rfl (.inr Al) rfl rfl rfl ?_; refine As 16 rfl (by kernel_rfl) rfl (.inr Al) rfl rfl rfl ?_; refine As 17 rfl (by kernel_rfl) rfl (.inr Al) rfl rfl rfl ?_; refine As 18 rfl (by kernel_rfl) rfl (.inr Al) rfl rfl rfl ?_; refine As 19 rfl (by kernel_rfl) rfl (.inr Al) rfl rfl rfl ?_; refine As 20 rfl (by kernel_rfl) rfl (.inr Al) rfl rfl rfl ?_; refine As 21 rfl (by kernel_rfl) rfl (.inr Al) rfl rfl rfl ?_; refine As 22 rfl (by kernel_rfl) rfl (.inr Al) rfl rfl rfl ?_; refine As 23 rfl (by kernel_rfl) rfl (.inr Al) rfl rfl rfl ?_
   refine As 24 rfl (by kernel_rfl) rfl (.inr Al) rfl rfl rfl ?_; refine Ds 25 rfl rfl rfl ?_; refine Da 26 rfl (C9 rfl rfl) ?_; refine Au (by kernel_rfl) ?_; refine A8 rfl ?_; refine Af (Ab (Se rfl ?_)); refine Aw rfl .free rfl ?_; refine Ca rfl (B9 hf.rep _) ?_; rintro _ J _ e0 ⟨ok, ck, rfl, hk1, rfl⟩
   have hf := hf.mono e0
   have hg := hg.mono e0
   have hfr := hfr.mono e0
   have hto := hto.mono e0
   have hle := hle.trans e0
   rw [hki] at hk1; rw [hki]; refine On rfl (Om rfl (Aa (Ai ?_))); refine Dd ?_; refine Se rfl (Oc rfl rfl rfl (Aa (Ab ?_))); refine Bn rfl (by first | rfl | decide | (simp; done) | omega) ?_; refine Af (Ab (Ai (Se rfl ?_)))
   first | refine Bi rfl rfl _ rfl .free rfl ?_ | refine Bj rfl rfl _ rfl .free rfl ?_
   refine Dl rfl .free rfl ?_; refine Oa rfl (Aa (Ab ?_)); refine Do 24 rfl rfl ?_; refine Da 0 rfl (Ae rfl) ?_; refine Dt 1 [24] rfl (A7 rfl) ?_; refine Da 2 rfl (Ac rfl) ?_
   first | refine Da 3 rfl (A4 rfl rfl _ rfl) ?_ | refine Da 3 rfl (A5 rfl rfl _ rfl) ?_
   refine Dt 4 [24] rfl (Bz rfl) ?_; refine Da 5 rfl (Ae rfl) ?_; refine Dt 6 [24] rfl (A7 rfl) ?_; refine Da 7 rfl (Ac rfl) ?_
   first | refine Da 8 rfl (A4 rfl rfl _ rfl) ?_ | refine Da 8 rfl (A5 rfl rfl _ rfl) ?_
   refine Dt 9 [24] rfl (Bz rfl) ?_; refine Da 10 rfl (Ac rfl) ?_; refine Dt 11 [24] rfl (Cd rfl) ?_; refine Da 12 rfl (Ac rfl) ?_; refine Da 16 rfl (Ac rfl) ?_; refine Dt 17 [24] rfl (Cd rfl) ?_; refine Da 18 rfl (Ac rfl) ?_; refine Dc 13 rfl rfl (Bb hf.rep hok0 _ _) ?_; rintro _ J1 _ e1 ⟨o1, k1, rfl, hs1, rfl⟩; refine Hx ?_; refine C6 14 rfl (by kernel_rfl) rfl rfl rfl (by rfl) (by rfl) (by rfl) (by decide) (by decide) (by rfl) .free rfl (.inr Al) ?_; intro b111; refine Ce ?_; intro hz
   have e2 := e1.trans hz
   refine Dc 15 rfl rfl (A1 (Ax (xs := [.slice of f.length cf, .slice o1 (List.length _) k1]) (ys := [])) (hfr.mono e2) (hs1.mono hz) (Ex.binds_room0 (by omega)) _) ?_; rintro _ J3 _ e3 ⟨o3, k3, rfl, hs3, rfl⟩
   have e4 := e2.trans e3
   refine Hx ?_; refine Dc 19 rfl rfl (Bb (hg.mono e4).rep hok0' _ _) ?_; rintro _ J4 _ e5 ⟨o4, k4, rfl, hs4, rfl⟩
   have e45 := e4.trans e5
   refine Hx ?_; refine C6 20 rfl (by kernel_rfl) rfl rfl rfl (by rfl) (by rfl) (by rfl) (by decide) (by decide) (by rfl) .free rfl (.inr Al) ?_; intro b117; refine Ce ?_; intro hy
   have e6 := e4.trans (e5.trans hy)
   refine Dc 21 rfl rfl (A1 (Ax (xs := [.slice ot t.length ct, .slice o4 (List.length _) k4]) (ys := [])) (hto.mono e6) (hs4.mono hy) (Ex.binds_room0 (by omega)) _) ?_; rintro _ J5 _ e7 ⟨o5, k5, rfl, hs5, rfl⟩
   have e8 := e6.trans e7
   have hs3 := hs3.mono (e5.trans (hy.trans e7))
   have hf3 := hf.mono e8
   have hg3 := hg.mono e8
   refine Hx ?_; refine Dc 22 rfl rfl (ihn (f := f ++ []) (t := t ++ []) (by omega) (hf3.as 1 a.tree (by omega) rfl) hok.1 (hg3.as 1 a'.tree (by omega) rfl) hok'.1 hs3 hs5 (by simpa using hnf) (by simpa using hnt) (by first | omega | (simp only [List.length_append, List.length_cons, List.length_nil]; omega)) (by first | omega | (simp only [List.length_append, List.length_cons, List.length_nil]; omega)) _) ?_; rintro _ J6 _ e9 ⟨rfl, rfl⟩
   have e10 := e8.trans e9
   simp only [List.append_nil]
   refine Hx ?_; refine Da 23 rfl (Ik rfl) ?_; refine Au (by kernel_rfl) ?_; refine Av rfl ?_ ?_
   ·intro c4
    try simp only [nb] at c4
    refine Se rfl (Oa rfl (Aa (Ag (.tmp rfl .nil) ?_))); refine ⟨_, L, hle.trans e10, Bt, ?_, rfl⟩
    have hx : (Ex.bin o a b).alk (Ex.bin o a' b') f t = false := by
     simp only [Ex.alk]; simp [c4]
    rw [hx]; rfl
   intro c4
   try simp only [nb] at c4
   have hq0 := c4
   have hf := hf3.mono e9
   have hg := hg3.mono e9
   have hfr := hfr.mono e10
   have hto := hto.mono e10
   have hk1 := hk1.mono e10
   have hle := hle.trans e10
   refine Af (Ak (Ah rfl ?_)); refine Or rfl rfl rfl ?_; refine Om rfl (Aa ?_); refine Bm ?_; refine Se rfl (Oc rfl rfl rfl (Aa (Ab ?_))); refine Bn rfl (by first | rfl | decide | (simp; done) | omega) ?_; refine Af (Ab (Ai (Se rfl ?_)))
   first | refine Bi rfl rfl _ rfl .free rfl ?_ | refine Bj rfl rfl _ rfl .free rfl ?_
   refine Dl rfl .free rfl ?_; refine Oa rfl (Aa (Ab ?_)); refine Do 24 rfl rfl ?_; refine Da 0 rfl (Ae rfl) ?_; refine Dt 1 [24] rfl (A7 rfl) ?_; refine Da 2 rfl (Ac rfl) ?_
   first | refine Da 3 rfl (A4 rfl rfl _ rfl) ?_ | refine Da 3 rfl (A5 rfl rfl _ rfl) ?_
   refine Dt 4 [24] rfl (Bz rfl) ?_; refine Da 5 rfl (Ae rfl) ?_; refine Dt 6 [24] rfl (A7 rfl) ?_; refine Da 7 rfl (Ac rfl) ?_
   first | refine Da 8 rfl (A4 rfl rfl _ rfl) ?_ | refine Da 8 rfl (A5 rfl rfl _ rfl) ?_
   refine Dt 9 [24] rfl (Bz rfl) ?_; refine Da 10 rfl (Ac rfl) ?_; refine Dt 11 [24] rfl (Cd rfl) ?_; refine Da 12 rfl (Ac rfl) ?_; refine Da 16 rfl (Ac rfl) ?_; refine Dt 17 [24] rfl (Cd rfl) ?_; refine Da 18 rfl (Ac rfl) ?_; refine Dc 13 rfl rfl (Bb hf.rep hok0 _ _) ?_; rintro _ J1 _ e1 ⟨o1, k1, rfl, hs1, rfl⟩; refine Hx ?_; refine C6 14 rfl (by kernel_rfl) rfl rfl rfl (by rfl) (by rfl) (by rfl) (by decide) (by decide) (by rfl) .free rfl (.inr Al) ?_; intro b111; refine Ce ?_; intro hz
   have e2 := e1.trans hz
   refine Dc 15 rfl rfl (A1 (Ax (xs := [.slice of f.length cf, .slice o1 (List.length _) k1]) (ys := [])) (hfr.mono e2) (hs1.mono hz) (Ex.binds_room0 (by omega)) _) ?_; rintro _ J3 _ e3 ⟨o3, k3, rfl, hs3, rfl⟩
   have e4 := e2.trans e3
   refine Hx ?_; refine Dc 19 rfl rfl (Bb (hg.mono e4).rep hok0' _ _) ?_; rintro _ J4 _ e5 ⟨o4, k4, rfl, hs4, rfl⟩
   have e45 := e4.trans e5
   refine Hx ?_; refine C6 20 rfl (by kernel_rfl) rfl rfl rfl (by rfl) (by rfl) (by rfl) (by decide) (by decide) (by rfl) .free rfl (.inr Al) ?_; intro b117; refine Ce ?_; intro hy
   have e6 := e4.trans (e5.trans hy)
   refine Dc 21 rfl rfl (A1 (Ax (xs := [.slice ot t.length ct, .slice o4 (List.length _) k4]) (ys := [])) (hto.mono e6) (hs4.mono hy) (Ex.binds_room0 (by omega)) _) ?_; rintro _ J5 _ e7 ⟨o5, k5, rfl, hs5, rfl⟩
   have e8 := e6.trans e7
   have hs3 := hs3.mono (e5.trans (hy.trans e7))
   have hf3 := hf.mono e8
   have hg3 := hg.mono e8
   refine Hx ?_; refine Dc 22 rfl rfl (ihn (f := f ++ []) (t := t ++ []) (by omega) (hf3.as 2 b.tree (by omega) rfl) hok.2 (hg3.as 2 b'.tree (by omega) rfl) hok'.2 hs3 hs5 (by simpa using hnf) (by simpa using hnt) (by first | omega | (simp only [List.length_append, List.length_cons, List.length_nil]; omega)) (by first | omega | (simp only [List.length_append, List.length_cons, List.length_nil]; omega)) _) ?_; rintro _ J6 _ e9 ⟨rfl, rfl⟩
   have e10 := e8.trans e9
   simp only [List.append_nil]
   refine Hx ?_; refine Da 23 rfl (Ik rfl) ?_; refine Au (by kernel_rfl) ?_; refine Av rfl ?_ ?_
   ·intro c4
    try simp only [nb] at c4
    refine Se rfl (Oa rfl (Aa (Ag (.tmp rfl .nil) ?_))); refine ⟨_, L, hle.trans e10, Bt, ?_, rfl⟩
    have hx : (Ex.bin o a b).alk (Ex.bin o a' b') f t = false := by
     simp only [Ex.alk]; simp [c4, hq0]
    rw [hx]; rfl
   intro c4
   try simp only [nb] at c4
   have hq1 := c4
   have hf := hf3.mono e9
   have hg := hg3.mono e9
   have hfr := hfr.mono e10
   have hto := hto.mono e10
   have hk1 := hk1.mono e10
   have hle := hle.trans e10
   refine Af (Ak (Ah rfl ?_)); refine Or rfl rfl rfl ?_; refine Om rfl (Aa ?_); refine Bm ?_; refine Se rfl (Oc rfl rfl rfl (Aa (Ab ?_))); refine Co rfl (by first | rfl | decide | (simp; done) | omega) ?_; refine Bq rfl ?_; refine Se rfl (Oa rfl (Aa (Ag (.tmp rfl .nil) ?_))); refine ⟨_, L, hle, Bt, ?_, rfl⟩
   have hx : (Ex.bin o a b).alk (Ex.bin o a' b') f t = true := by
    simp only [Ex.alk]; simp [hq0, hq1]
   rw [hx]; rfl
  ·skip
   have hlen : (Ex.ite a b d).tree.parts.length = 4 := rfl
   have hlen' : (Ex.ite a' b' d').tree.parts.length = 4 := rfl
   have hki := Ia a b d
   have hhd : (Ex.ite a b d).tree.head = E9 := rfl
   have hx3 : ¬ (Ex.ite a b d).tree.head = [102, 117, 110] := (by decide : ¬ E9 = Cq)
   have hx4 : ¬ (Ex.ite a' b' d').tree.head = [102, 117, 110] := (by decide : ¬ E9 = Cq)
   simp only [Ex.ite.sizeOf_spec] at hlt
   simp only [Ex.ok, Bool.and_eq_true, decide_eq_true_eq] at hok hok'
   simp only [Ex.size] at hfl htl
   refine Do 27 rfl rfl ?_; refine Dt 0 [27] rfl (Cd rfl) ?_; refine Dc 1 rfl rfl (Bk hf.rep _) ?_; rintro _ _ _ _ ⟨rfl, rfl, rfl⟩; refine Hx ?_; refine Da 2 rfl (J8 rfl rfl rfl) ?_; refine Da 3 rfl (Ac rfl) ?_; refine E6 (t := 66) rfl (v' := .bool false) (by first | simp [*] | (simp; omega)) ?_; refine Ds 4 rfl rfl rfl ?_; refine Ds 5 rfl rfl rfl ?_; refine Ds 6 rfl rfl rfl ?_; refine Ds 7 rfl rfl rfl ?_; refine Ds 8 rfl rfl rfl ?_; refine Ds 9 rfl rfl rfl ?_; refine Ds 10 rfl rfl rfl ?_; refine Ds 11 rfl rfl rfl ?_; refine Ds 12 rfl rfl rfl ?_; refine Ds 13 rfl rfl rfl ?_
   refine Ds 14 rfl rfl rfl ?_; refine As 15 rfl (by kernel_rfl) rfl (.inr Al) rfl rfl rfl ?_; refine As 16 rfl (by kernel_rfl) rfl (.inr Al) rfl rfl rfl ?_; refine As 17 rfl (by kernel_rfl) rfl (.inr Al) rfl rfl rfl ?_; refine As 18 rfl (by kernel_rfl) rfl (.inr Al) rfl rfl rfl ?_; refine As 19 rfl (by kernel_rfl) rfl (.inr Al) rfl rfl rfl ?_; refine As 20 rfl (by kernel_rfl) rfl (.inr Al) rfl rfl rfl ?_; refine As 21 rfl (by kernel_rfl) rfl (.inr Al) rfl rfl rfl ?_; refine As 22 rfl (by kernel_rfl) rfl (.inr Al) rfl rfl rfl ?_; refine As 23 rfl (by kernel_rfl) rfl (.inr Al) rfl rfl rfl ?_
   refine As 24 rfl (by kernel_rfl) rfl (.inr Al) rfl rfl rfl ?_; refine Ds 25 rfl rfl rfl ?_; refine Da 26 rfl (C9 rfl rfl) ?_; refine Au (by kernel_rfl) ?_; refine A8 rfl ?_; refine Af (Ab (Se rfl ?_)); refine Aw rfl .free rfl ?_; refine Ca rfl (B9 hf.rep _) ?_; rintro _ J _ e0 ⟨ok, ck, rfl, hk1, rfl⟩
   have hf := hf.mono e0
   have hg := hg.mono e0
   have hfr := hfr.mono e0
   have hto := hto.mono e0
   have hle := hle.trans e0
   rw [hki] at hk1; rw [hki]; refine On rfl (Om rfl (Aa (Ai ?_))); refine Dd ?_; refine Se rfl (Oc rfl rfl rfl (Aa (Ab ?_))); refine Bn rfl (by first | rfl | decide | (simp; done) | omega) ?_; refine Af (Ab (Ai (Se rfl ?_)))
   first | refine Bi rfl rfl _ rfl .free rfl ?_ | refine Bj rfl rfl _ rfl .free rfl ?_
   refine Dl rfl .free rfl ?_; refine Oa rfl (Aa (Ab ?_)); refine Do 24 rfl rfl ?_; refine Da 0 rfl (Ae rfl) ?_; refine Dt 1 [24] rfl (A7 rfl) ?_; refine Da 2 rfl (Ac rfl) ?_
   first | refine Da 3 rfl (A4 rfl rfl _ rfl) ?_ | refine Da 3 rfl (A5 rfl rfl _ rfl) ?_
   refine Dt 4 [24] rfl (Bz rfl) ?_; refine Da 5 rfl (Ae rfl) ?_; refine Dt 6 [24] rfl (A7 rfl) ?_; refine Da 7 rfl (Ac rfl) ?_
   first | refine Da 8 rfl (A4 rfl rfl _ rfl) ?_ | refine Da 8 rfl (A5 rfl rfl _ rfl) ?_
   refine Dt 9 [24] rfl (Bz rfl) ?_; refine Da 10 rfl (Ac rfl) ?_; refine Dt 11 [24] rfl (Cd rfl) ?_; refine Da 12 rfl (Ac rfl) ?_; refine Da 16 rfl (Ac rfl) ?_; refine Dt 17 [24] rfl (Cd rfl) ?_; refine Da 18 rfl (Ac rfl) ?_; refine Dc 13 rfl rfl (Bb hf.rep hok0 _ _) ?_; rintro _ J1 _ e1 ⟨o1, k1, rfl, hs1, rfl⟩; refine Hx ?_; refine C6 14 rfl (by kernel_rfl) rfl rfl rfl (by rfl) (by rfl) (by rfl) (by decide) (by decide) (by rfl) .free rfl (.inr Al) ?_; intro b111; refine Ce ?_; intro hz
   have e2 := e1.trans hz
   refine Dc 15 rfl rfl (A1 (Ax (xs := [.slice of f.length cf, .slice o1 (List.length _) k1]) (ys := [])) (hfr.mono e2) (hs1.mono hz) (Ex.binds_room0 (by omega)) _) ?_; rintro _ J3 _ e3 ⟨o3, k3, rfl, hs3, rfl⟩
   have e4 := e2.trans e3
   refine Hx ?_; refine Dc 19 rfl rfl (Bb (hg.mono e4).rep hok0' _ _) ?_; rintro _ J4 _ e5 ⟨o4, k4, rfl, hs4, rfl⟩
   have e45 := e4.trans e5
   refine Hx ?_; refine C6 20 rfl (by kernel_rfl) rfl rfl rfl (by rfl) (by rfl) (by rfl) (by decide) (by decide) (by rfl) .free rfl (.inr Al) ?_; intro b117; refine Ce ?_; intro hy
   have e6 := e4.trans (e5.trans hy)
   refine Dc 21 rfl rfl (A1 (Ax (xs := [.slice ot t.length ct, .slice o4 (List.length _) k4]) (ys := [])) (hto.mono e6) (hs4.mono hy) (Ex.binds_room0 (by omega)) _) ?_; rintro _ J5 _ e7 ⟨o5, k5, rfl, hs5, rfl⟩
   have e8 := e6.trans e7
   have hs3 := hs3.mono (e5.trans (hy.trans e7))
   have hf3 := hf.mono e8
   have hg3 := hg.mono e8
   refine Hx ?_; refine Dc 22 rfl rfl (ihn (f := f ++ []) (t := t ++ []) (by omega) (hf3.as 1 a.tree (by omega) rfl) hok.1.1 (hg3.as 1 a'.tree (by omega) rfl) hok'.1.1 hs3 hs5 (by simpa using hnf) (by simpa using hnt) (by first | omega | (simp only [List.length_append, List.length_cons, List.length_nil]; omega)) (by first | omega | (simp only [List.length_append, List.length_cons, List.length_nil]; omega)) _) ?_; rintro _ J6 _ e9 ⟨rfl, rfl⟩
   have e10 := e8.trans e9
   simp only [List.append_nil]
   refine Hx ?_; refine Da 23 rfl (Ik rfl) ?_; refine Au (by kernel_rfl) ?_; refine Av rfl ?_ ?_
   ·intro c4
    try simp only [nb] at c4
    refine Se rfl (Oa rfl (Aa (Ag (.tmp rfl .nil) ?_))); refine ⟨_, L, hle.trans e10, Bt, ?_, rfl⟩
    have hx : (Ex.ite a b d).alk (Ex.ite a' b' d') f t = false := by
     simp only [Ex.alk]; simp [c4]
    rw [hx]; rfl
   intro c4
   try simp only [nb] at c4
   have hq0 := c4
   have hf := hf3.mono e9
   have hg := hg3.mono e9
   have hfr := hfr.mono e10
   have hto := hto.mono e10
   have hk1 := hk1.mono e10
   have hle := hle.trans e10
   refine Af (Ak (Ah rfl ?_)); refine Or rfl rfl rfl ?_; refine Om rfl (Aa ?_); refine Bm ?_; refine Se rfl (Oc rfl rfl rfl (Aa (Ab ?_))); refine Bn rfl (by first | rfl | decide | (simp; done) | omega) ?_; refine Af (Ab (Ai (Se rfl ?_)))
   first | refine Bi rfl rfl _ rfl .free rfl ?_ | refine Bj rfl rfl _ rfl .free rfl ?_
   refine Dl rfl .free rfl ?_; refine Oa rfl (Aa (Ab ?_)); refine Do 24 rfl rfl ?_; refine Da 0 rfl (Ae rfl) ?_; refine Dt 1 [24] rfl (A7 rfl) ?_; refine Da 2 rfl (Ac rfl) ?_
   first | refine Da 3 rfl (A4 rfl rfl _ rfl) ?_ | refine Da 3 rfl (A5 rfl rfl _ rfl) ?_
   refine Dt 4 [24] rfl (Bz rfl) ?_; refine Da 5 rfl (Ae rfl) ?_; refine Dt 6 [24] rfl (A7 rfl) ?_; refine Da 7 rfl (Ac rfl) ?_
   first | refine Da 8 rfl (A4 rfl rfl _ rfl) ?_ | refine Da 8 rfl (A5 rfl rfl _ rfl) ?_
   refine Dt 9 [24] rfl (Bz rfl) ?_; refine Da 10 rfl (Ac rfl) ?_; refine Dt 11 [24] rfl (Cd rfl) ?_; refine Da 12 rfl (Ac rfl) ?_; refine Da 16 rfl (Ac rfl) ?_; refine Dt 17 [24] rfl (Cd rfl) ?_; refine Da 18 rfl (Ac rfl) ?_; refine Dc 13 rfl rfl (Bb hf.rep hok0 _ _) ?_; rintro _ J1 _ e1 ⟨o1, k1, rfl, hs1, rfl⟩; refine Hx ?_; refine C6 14 rfl (by kernel_rfl) rfl rfl rfl (by rfl) (by rfl) (by rfl) (by decide) (by decide) (by rfl) .free rfl (.inr Al) ?_; intro b111; refine Ce ?_; intro hz
   have e2 := e1.trans hz
   refine Dc 15 rfl rfl (A1 (Ax (xs := [.slice of f.length cf, .slice o1 (List.length _) k1]) (ys := [])) (hfr.mono e2) (hs1.mono hz) (Ex.binds_room0 (by omega)) _) ?_; rintro _ J3 _ e3 ⟨o3, k3, rfl, hs3, rfl⟩
   have e4 := e2.trans e3
   refine Hx ?_; refine Dc 19 rfl rfl (Bb (hg.mono e4).rep hok0' _ _) ?_; rintro _ J4 _ e5 ⟨o4, k4, rfl, hs4, rfl⟩
   have e45 := e4.trans e5
   refine Hx ?_; refine C6 20 rfl (by kernel_rfl) rfl rfl rfl (by rfl) (by rfl) (by rfl) (by decide) (by decide) (by rfl) .free rfl (.inr Al) ?_; intro b117; refine Ce ?_; intro hy
   have e6 := e4.trans (e5.trans hy)
   refine Dc 21 rfl rfl (A1 (Ax (xs := [.slice ot t.length ct, .slice o4 (List.length _) k4]) (ys := [])) (hto.mono e6) (hs4.mono hy) (Ex.binds_room0 (by omega)) _) ?_; rintro _ J5 _ e7 ⟨o5, k5, rfl, hs5, rfl⟩
   have e8 := e6.trans e7
   have hs3 := hs3.mono (e5.trans (hy.trans e7))
   have hf3 := hf.mono e8
   have hg3 := hg.mono e8
   refine Hx ?_; refine Dc 22 rfl rfl (ihn (f := f ++ []) (t := t ++ []) (by omega) (hf3.as 2 b.tree (by omega) rfl) hok.1.2 (hg3.as 2 b'.tree (by omega) rfl) hok'.1.2 hs3 hs5 (by simpa using hnf) (by simpa using hnt) (by first | omega | (simp only [List.length_append, List.length_cons, List.length_nil]; omega)) (by first | omega | (simp only [List.length_append, List.length_cons, List.length_nil]; omega)) _) ?_; rintro _ J6 _ e9 ⟨rfl, rfl⟩
   have e10 := e8.trans e9
   simp only [List.append_nil]
   refine Hx ?_; refine Da 23 rfl (Ik rfl) ?_; refine Au (by kernel_rfl) ?_; refine Av rfl ?_ ?_
   ·intro c4
    try simp only [nb] at c4
    refine Se rfl (Oa rfl (Aa (Ag (.tmp rfl .nil) ?_))); refine ⟨_, L, hle.trans e10, Bt, ?_, rfl⟩
    have hx : (Ex.ite a b d).alk (Ex.ite a' b' d') f t = false := by
     simp only [Ex.alk]; simp [c4, hq0]
    rw [hx]; rfl
   intro c4
   try simp only [nb] at c4
   have hq1 := c4
   have hf := hf3.mono e9
   have hg := hg3.mono e9
   have hfr := hfr.mono e10
   have hto := hto.mono e10
   have hk1 := hk1.mono e10
   have hle := hle.trans e10
   refine Af (Ak (Ah rfl ?_)); refine Or rfl rfl rfl ?_; refine Om rfl (Aa ?_); refine Bm ?_; refine Se rfl (Oc rfl rfl rfl (Aa (Ab ?_))); refine Bn rfl (by first | rfl | decide | (simp; done) | omega) ?_; refine Af (Ab (Ai (Se rfl ?_)))
   first | refine Bi rfl rfl _ rfl .free rfl ?_ | refine Bj rfl rfl _ rfl .free rfl ?_
   refine Dl rfl .free rfl ?_; refine Oa rfl (Aa (Ab ?_)); refine Do 24 rfl rfl ?_; refine Da 0 rfl (Ae rfl) ?_; refine Dt 1 [24] rfl (A7 rfl) ?_; refine Da 2 rfl (Ac rfl) ?_
   first | refine Da 3 rfl (A4 rfl rfl _ rfl) ?_ | refine Da 3 rfl (A5 rfl rfl _ rfl) ?_
   refine Dt 4 [24] rfl (Bz rfl) ?_; refine Da 5 rfl (Ae rfl) ?_; refine Dt 6 [24] rfl (A7 rfl) ?_; refine Da 7 rfl (Ac rfl) ?_
   first | refine Da 8 rfl (A4 rfl rfl _ rfl) ?_ | refine Da 8 rfl (A5 rfl rfl _ rfl) ?_
   refine Dt 9 [24] rfl (Bz rfl) ?_; refine Da 10 rfl (Ac rfl) ?_; refine Dt 11 [24] rfl (Cd rfl) ?_; refine Da 12 rfl (Ac rfl) ?_; refine Da 16 rfl (Ac rfl) ?_; refine Dt 17 [24] rfl (Cd rfl) ?_; refine Da 18 rfl (Ac rfl) ?_; refine Dc 13 rfl rfl (Bb hf.rep hok0 _ _) ?_; rintro _ J1 _ e1 ⟨o1, k1, rfl, hs1, rfl⟩; refine Hx ?_; refine C6 14 rfl (by kernel_rfl) rfl rfl rfl (by rfl) (by rfl) (by rfl) (by decide) (by decide) (by rfl) .free rfl (.inr Al) ?_; intro b111; refine Ce ?_; intro hz
   have e2 := e1.trans hz
   refine Dc 15 rfl rfl (A1 (Ax (xs := [.slice of f.length cf, .slice o1 (List.length _) k1]) (ys := [])) (hfr.mono e2) (hs1.mono hz) (Ex.binds_room0 (by omega)) _) ?_; rintro _ J3 _ e3 ⟨o3, k3, rfl, hs3, rfl⟩
   have e4 := e2.trans e3
   refine Hx ?_; refine Dc 19 rfl rfl (Bb (hg.mono e4).rep hok0' _ _) ?_; rintro _ J4 _ e5 ⟨o4, k4, rfl, hs4, rfl⟩
   have e45 := e4.trans e5
   refine Hx ?_; refine C6 20 rfl (by kernel_rfl) rfl rfl rfl (by rfl) (by rfl) (by rfl) (by decide) (by decide) (by rfl) .free rfl (.inr Al) ?_; intro b117; refine Ce ?_; intro hy
   have e6 := e4.trans (e5.trans hy)
   refine Dc 21 rfl rfl (A1 (Ax (xs := [.slice ot t.length ct, .slice o4 (List.length _) k4]) (ys := [])) (hto.mono e6) (hs4.mono hy) (Ex.binds_room0 (by omega)) _) ?_; rintro _ J5 _ e7 ⟨o5, k5, rfl, hs5, rfl⟩
   have e8 := e6.trans e7
   have hs3 := hs3.mono (e5.trans (hy.trans e7))
   have hf3 := hf.mono e8
   have hg3 := hg.mono e8
   refine Hx ?_; refine Dc 22 rfl rfl (ihn (f := f ++ []) (t := t ++ []) (by omega) (hf3.as 3 d.tree (by omega) rfl) hok.2 (hg3.as 3 d'.tree (by omega) rfl) hok'.2 hs3 hs5 (by simpa using hnf) (by simpa using hnt) (by first | omega | (simp only [List.length_append, List.length_cons, List.length_nil]; omega)) (by first | omega | (simp only [List.length_append, List.length_cons, List.length_nil]; omega)) _) ?_; rintro _ J6 _ e9 ⟨rfl, rfl⟩
   have e10 := e8.trans e9
   simp only [List.append_nil]
   refine Hx ?_; refine Da 23 rfl (Ik rfl) ?_; refine Au (by kernel_rfl) ?_; refine Av rfl ?_ ?_
   ·intro c4
    try simp only [nb] at c4
    refine Se rfl (Oa rfl (Aa (Ag (.tmp rfl .nil) ?_))); refine ⟨_, L, hle.trans e10, Bt, ?_, rfl⟩
    have hx : (Ex.ite a b d).alk (Ex.ite a' b' d') f t = false := by
     simp only [Ex.alk]; simp [c4, hq0, hq1]
    rw [hx]; rfl
   intro c4
   try simp only [nb] at c4
   have hq2 := c4
   have hf := hf3.mono e9
   have hg := hg3.mono e9
   have hfr := hfr.mono e10
   have hto := hto.mono e10
   have hk1 := hk1.mono e10
   have hle := hle.trans e10
   refine Af (Ak (Ah rfl ?_)); refine Or rfl rfl rfl ?_; refine Om rfl (Aa ?_); refine Bm ?_; refine Se rfl (Oc rfl rfl rfl (Aa (Ab ?_))); refine Co rfl (by first | rfl | decide | (simp; done) | omega) ?_; refine Bq rfl ?_; refine Se rfl (Oa rfl (Aa (Ag (.tmp rfl .nil) ?_))); refine ⟨_, L, hle, Bt, ?_, rfl⟩
   have hx : (Ex.ite a b d).alk (Ex.ite a' b' d') f t = true := by
    simp only [Ex.alk]; simp [hq0, hq1, hq2]
   rw [hx]; rfl
  ·skip
   have hlen : (Ex.lt z a b).tree.parts.length = 4 := rfl
   have hlen' : (Ex.lt z' a' b').tree.parts.length = 4 := rfl
   have hki := Ib z a b
   have hhd : (Ex.lt z a b).tree.head = Cw := rfl
   have hx3 : ¬ (Ex.lt z a b).tree.head = [102, 117, 110] := (by decide : ¬ Cw = Cq)
   have hx4 : ¬ (Ex.lt z' a' b').tree.head = [102, 117, 110] := (by decide : ¬ Cw = Cq)
   simp only [Ex.lt.sizeOf_spec] at hlt
   simp only [Ex.ok, Bool.and_eq_true, decide_eq_true_eq] at hok hok'
   simp only [Ex.size] at hfl htl
   refine Do 27 rfl rfl ?_; refine Dt 0 [27] rfl (Cd rfl) ?_; refine Dc 1 rfl rfl (Bk hf.rep _) ?_; rintro _ _ _ _ ⟨rfl, rfl, rfl⟩; refine Hx ?_; refine Da 2 rfl (J8 rfl rfl rfl) ?_; refine Da 3 rfl (Ac rfl) ?_; refine E6 (t := 66) rfl (v' := .bool false) (by first | simp [*] | (simp; omega)) ?_; refine Ds 4 rfl rfl rfl ?_; refine Ds 5 rfl rfl rfl ?_; refine Ds 6 rfl rfl rfl ?_; refine Ds 7 rfl rfl rfl ?_; refine Ds 8 rfl rfl rfl ?_; refine Ds 9 rfl rfl rfl ?_; refine Ds 10 rfl rfl rfl ?_; refine Ds 11 rfl rfl rfl ?_; refine Ds 12 rfl rfl rfl ?_; refine Ds 13 rfl rfl rfl ?_
   refine Ds 14 rfl rfl rfl ?_; refine As 15 rfl (by kernel_rfl) rfl (.inr Al) rfl rfl rfl ?_; refine As 16 rfl (by kernel_rfl) rfl (.inr Al) rfl rfl rfl ?_; refine As 17 rfl (by kernel_rfl) rfl (.inr Al) rfl rfl rfl ?_; refine As 18 rfl (by kernel_rfl) rfl (.inr Al) rfl rfl rfl ?_; refine As 19 rfl (by kernel_rfl) rfl (.inr Al) rfl rfl rfl ?_; refine As 20 rfl (by kernel_rfl) rfl (.inr Al) rfl rfl rfl ?_; refine As 21 rfl (by kernel_rfl) rfl (.inr Al) rfl rfl rfl ?_; refine As 22 rfl (by kernel_rfl) rfl (.inr Al) rfl rfl rfl ?_; refine As 23 rfl (by kernel_rfl) rfl (.inr Al) rfl rfl rfl ?_
   refine As 24 rfl (by kernel_rfl) rfl (.inr Al) rfl rfl rfl ?_; refine Ds 25 rfl rfl rfl ?_; refine Da 26 rfl (C9 rfl rfl) ?_; refine Au (by kernel_rfl) ?_; refine A8 rfl ?_; refine Af (Ab (Se rfl ?_)); refine Aw rfl .free rfl ?_; refine Ca rfl (B9 hf.rep _) ?_; rintro _ J _ e0 ⟨ok, ck, rfl, hk1, rfl⟩
   have hf := hf.mono e0
   have hg := hg.mono e0
   have hfr := hfr.mono e0
   have hto := hto.mono e0
   have hle := hle.trans e0
   rw [hki] at hk1; rw [hki]; refine On rfl (Om rfl (Aa (Ai ?_))); refine Dd ?_; refine Se rfl (Oc rfl rfl rfl (Aa (Ab ?_))); refine Bn rfl (by first | rfl | decide | (simp; done) | omega) ?_; refine Af (Ab (Ai (Se rfl ?_)))
   first | refine Bi rfl rfl _ rfl .free rfl ?_ | refine Bj rfl rfl _ rfl .free rfl ?_
   refine Dl rfl .free rfl ?_; refine Oa rfl (Aa (Ab ?_)); refine Do 24 rfl rfl ?_; refine Da 0 rfl (Ae rfl) ?_; refine Dt 1 [24] rfl (A7 rfl) ?_; refine Da 2 rfl (Ac rfl) ?_
   first | refine Da 3 rfl (A4 rfl rfl _ rfl) ?_ | refine Da 3 rfl (A5 rfl rfl _ rfl) ?_
   refine Dt 4 [24] rfl (Bz rfl) ?_; refine Da 5 rfl (Ae rfl) ?_; refine Dt 6 [24] rfl (A7 rfl) ?_; refine Da 7 rfl (Ac rfl) ?_
   first | refine Da 8 rfl (A4 rfl rfl _ rfl) ?_ | refine Da 8 rfl (A5 rfl rfl _ rfl) ?_
   refine Dt 9 [24] rfl (Bz rfl) ?_; refine Da 10 rfl (Ac rfl) ?_; refine Dt 11 [24] rfl (Cd rfl) ?_; refine Da 12 rfl (Ac rfl) ?_; refine Da 16 rfl (Ac rfl) ?_; refine Dt 17 [24] rfl (Cd rfl) ?_; refine Da 18 rfl (Ac rfl) ?_; refine Dc 13 rfl rfl (Bb hf.rep hok0 _ _) ?_; rintro _ J1 _ e1 ⟨o1, k1, rfl, hs1, rfl⟩; refine Hx ?_; refine C6 14 rfl (by kernel_rfl) rfl rfl rfl (by rfl) (by rfl) (by rfl) (by decide) (by decide) (by rfl) .free rfl (.inr Al) ?_; intro b111; refine Ce ?_; intro hz
   have e2 := e1.trans hz
   refine Dc 15 rfl rfl (A1 (Ax (xs := [.slice of f.length cf, .slice o1 (List.length _) k1]) (ys := [])) (hfr.mono e2) (hs1.mono hz) (Ex.binds_room0 (by omega)) _) ?_; rintro _ J3 _ e3 ⟨o3, k3, rfl, hs3, rfl⟩
   have e4 := e2.trans e3
   refine Hx ?_; refine Dc 19 rfl rfl (Bb (hg.mono e4).rep hok0' _ _) ?_; rintro _ J4 _ e5 ⟨o4, k4, rfl, hs4, rfl⟩
   have e45 := e4.trans e5
   refine Hx ?_; refine C6 20 rfl (by kernel_rfl) rfl rfl rfl (by rfl) (by rfl) (by rfl) (by decide) (by decide) (by rfl) .free rfl (.inr Al) ?_; intro b117; refine Ce ?_; intro hy
   have e6 := e4.trans (e5.trans hy)
   refine Dc 21 rfl rfl (A1 (Ax (xs := [.slice ot t.length ct, .slice o4 (List.length _) k4]) (ys := [])) (hto.mono e6) (hs4.mono hy) (Ex.binds_room0 (by omega)) _) ?_; rintro _ J5 _ e7 ⟨o5, k5, rfl, hs5, rfl⟩
   have e8 := e6.trans e7
   have hs3 := hs3.mono (e5.trans (hy.trans e7))
   have hf3 := hf.mono e8
   have hg3 := hg.mono e8
   refine Hx ?_; refine Dc 22 rfl rfl (ihn (f := f ++ []) (t := t ++ []) (by omega) (hf3.as 2 a.tree (by omega) rfl) hok.1.2 (hg3.as 2 a'.tree (by omega) rfl) hok'.1.2 hs3 hs5 (by simpa using hnf) (by simpa using hnt) (by first | omega | (simp only [List.length_append, List.length_cons, List.length_nil]; omega)) (by first | omega | (simp only [List.length_append, List.length_cons, List.length_nil]; omega)) _) ?_; rintro _ J6 _ e9 ⟨rfl, rfl⟩
   have e10 := e8.trans e9
   simp only [List.append_nil]
   refine Hx ?_; refine Da 23 rfl (Ik rfl) ?_; refine Au (by kernel_rfl) ?_; refine Av rfl ?_ ?_
   ·intro c4
    try simp only [nb] at c4
    refine Se rfl (Oa rfl (Aa (Ag (.tmp rfl .nil) ?_))); refine ⟨_, L, hle.trans e10, Bt, ?_, rfl⟩
    have hx : (Ex.lt z a b).alk (Ex.lt z' a' b') f t = false := by
     simp only [Ex.alk]; simp [c4]
    rw [hx]; rfl
   intro c4
   try simp only [nb] at c4
   have hq0 := c4
   have hf := hf3.mono e9
   have hg := hg3.mono e9
   have hfr := hfr.mono e10
   have hto := hto.mono e10
   have hk1 := hk1.mono e10
   have hle := hle.trans e10
   refine Af (Ak (Ah rfl ?_)); refine Or rfl rfl rfl ?_; refine Om rfl (Aa ?_); refine Bm ?_; refine Se rfl (Oc rfl rfl rfl (Aa (Ab ?_))); refine Bn rfl (by first | rfl | decide | (simp; done) | omega) ?_; refine Af (Ab (Ai (Se rfl ?_)))
   first | refine Bi rfl rfl _ rfl .free rfl ?_ | refine Bj rfl rfl _ rfl .free rfl ?_
   refine Dl rfl .free rfl ?_; refine Oa rfl (Aa (Ab ?_)); refine Do 24 rfl rfl ?_; refine Da 0 rfl (Ae rfl) ?_; refine Dt 1 [24] rfl (A7 rfl) ?_; refine Da 2 rfl (Ac rfl) ?_
   first | refine Da 3 rfl (A4 rfl rfl _ rfl) ?_ | refine Da 3 rfl (A5 rfl rfl _ rfl) ?_
   refine Dt 4 [24] rfl (Bz rfl) ?_; refine Da 5 rfl (Ae rfl) ?_; refine Dt 6 [24] rfl (A7 rfl) ?_; refine Da 7 rfl (Ac rfl) ?_
   first | refine Da 8 rfl (A4 rfl rfl _ rfl) ?_ | refine Da 8 rfl (A5 rfl rfl _ rfl) ?_
   refine Dt 9 [24] rfl (Bz rfl) ?_; refine Da 10 rfl (Ac rfl) ?_; refine Dt 11 [24] rfl (Cd rfl) ?_; refine Da 12 rfl (Ac rfl) ?_; refine Da 16 rfl (Ac rfl) ?_; refine Dt 17 [24] rfl (Cd rfl) ?_; refine Da 18 rfl (Ac rfl) ?_; refine Dc 13 rfl rfl (Bb hf.rep hok0 _ _) ?_; rintro _ J1 _ e1 ⟨o1, k1, rfl, hs1, rfl⟩; refine Hx ?_; refine C6 14 rfl (by kernel_rfl) rfl rfl rfl (by rfl) (by rfl) (by rfl) (by decide) (by decide) (by rfl) .free rfl (.inr Al) ?_; intro b111; refine Ce ?_; intro hz
   have e2 := e1.trans hz
   refine Dc 15 rfl rfl (A1 (Ax (xs := [.slice of f.length cf, .slice o1 (List.length _) k1]) (ys := [])) (hfr.mono e2) (hs1.mono hz) (Ex.binds_room0 (by omega)) _) ?_; rintro _ J3 _ e3 ⟨o3, k3, rfl, hs3, rfl⟩
   have e4 := e2.trans e3
   refine Hx ?_; refine Dc 19 rfl rfl (Bb (hg.mono e4).rep hok0' _ _) ?_; rintro _ J4 _ e5 ⟨o4, k4, rfl, hs4, rfl⟩
   have e45 := e4.trans e5
   refine Hx ?_; refine C6 20 rfl (by kernel_rfl) rfl rfl rfl (by rfl) (by rfl) (by rfl) (by decide) (by decide) (by rfl) .free rfl (.inr Al) ?_; intro b117; refine Ce ?_; intro hy
   have e6 := e4.trans (e5.trans hy)
   refine Dc 21 rfl rfl (A1 (Ax (xs := [.slice ot t.length ct, .slice o4 (List.length _) k4]) (ys := [])) (hto.mono e6) (hs4.mono hy) (Ex.binds_room0 (by omega)) _) ?_; rintro _ J5 _ e7 ⟨o5, k5, rfl, hs5, rfl⟩
   have e8 := e6.trans e7
   have hs3 := hs3.mono (e5.trans (hy.trans e7))
   have hf3 := hf.mono e8
   have hg3 := hg.mono e8
   refine Hx ?_; refine Dc 22 rfl rfl (ihn (f := f ++ [z]) (t := t ++ [z']) (by omega) (hf3.as 3 b.tree (by omega) rfl) hok.2 (hg3.as 3 b'.tree (by omega) rfl) hok'.2 hs3 hs5 (hnf.add (by intro y hy; rw [List.mem_singleton.1 hy]; exact hok.1.1)) (hnt.add (by intro y hy; rw [List.mem_singleton.1 hy]; exact hok'.1.1)) (by first | omega | (simp only [List.length_append, List.length_cons, List.length_nil]; omega)) (by first | omega | (simp only [List.length_append, List.length_cons, List.length_nil]; omega)) _) ?_; rintro _ J6 _ e9 ⟨rfl, rfl⟩
   have e10 := e8.trans e9
   refine Hx ?_; refine Da 23 rfl (Ik rfl) ?_; refine Au (by kernel_rfl) ?_; refine Av rfl ?_ ?_
   ·intro c4
    try simp only [nb] at c4
    refine Se rfl (Oa rfl (Aa (Ag (.tmp rfl .nil) ?_))); refine ⟨_, L, hle.trans e10, Bt, ?_, rfl⟩
    have hx : (Ex.lt z a b).alk (Ex.lt z' a' b') f t = false := by
     simp only [Ex.alk]; simp [c4, hq0]
    rw [hx]; rfl
   intro c4
   try simp only [nb] at c4
   have hq1 := c4
   have hf := hf3.mono e9
   have hg := hg3.mono e9
   have hfr := hfr.mono e10
   have hto := hto.mono e10
   have hk1 := hk1.mono e10
   have hle := hle.trans e10
   refine Af (Ak (Ah rfl ?_)); refine Or rfl rfl rfl ?_; refine Om rfl (Aa ?_); refine Bm ?_; refine Se rfl (Oc rfl rfl rfl (Aa (Ab ?_))); refine Co rfl (by first | rfl | decide | (simp; done) | omega) ?_; refine Bq rfl ?_; refine Se rfl (Oa rfl (Aa (Ag (.tmp rfl .nil) ?_))); refine ⟨_, L, hle, Bt, ?_, rfl⟩
   have hx : (Ex.lt z a b).alk (Ex.lt z' a' b') f t = true := by
    simp only [Ex.alk]; simp [hq0, hq1]
   rw [hx]; rfl
  ·skip
   have hlen : (Ex.fn h1 z s u b).tree.parts.length = 6 := rfl
   have hlen' : (Ex.fn h1' z' s' u' b').tree.parts.length = 6 := rfl
   have hki := Ip h1 z s u b
   have hhd : (Ex.fn h1 z s u b).tree.head = Cq := rfl
   have hx3 :  (Ex.fn h1 z s u b).tree.head = [102, 117, 110] := rfl
   have hx4 :  (Ex.fn h1' z' s' u' b').tree.head = [102, 117, 110] := rfl
   simp only [Ex.fn.sizeOf_spec] at hlt
   simp only [Ex.ok, Bool.and_eq_true, decide_eq_true_eq] at hok hok'
   simp only [Ex.size] at hfl htl
   refine Do 27 rfl rfl ?_; refine Dt 0 [27] rfl (Cd rfl) ?_; refine Dc 1 rfl rfl (Bk hf.rep _) ?_; rintro _ _ _ _ ⟨rfl, rfl, rfl⟩; refine Hx ?_; refine Da 2 rfl (J8 rfl rfl rfl) ?_; refine Da 3 rfl (Ac rfl) ?_; refine E6 (t := 66) rfl (v' := .bool true) (by first | simp [*] | (simp; omega)) ?_; refine Dm 4 rfl (Ae rfl) ?_; refine El 5 [27] rfl (by kernel_rfl) rfl Al (A7 rfl) (.met rfl rfl) rfl ?_
   first | refine Dm 6 rfl (A4 rfl rfl 3 rfl) ?_ | refine Dm 6 rfl (A5 rfl rfl 3 rfl) ?_
   refine El 7 [27] rfl (by kernel_rfl) rfl Al (Bz rfl) (.met rfl rfl) rfl ?_; refine Dm 8 rfl (Ae rfl) ?_; refine El 9 [27] rfl (by kernel_rfl) rfl Al (A7 rfl) (.met rfl rfl) rfl ?_
   first | refine Dm 10 rfl (A4 rfl rfl 3 rfl) ?_ | refine Dm 10 rfl (A5 rfl rfl 3 rfl) ?_
   refine El 11 [27] rfl (by kernel_rfl) rfl Al (Bz rfl) (.met rfl rfl) rfl ?_; refine Hq 12 rfl (by kernel_rfl) rfl rfl (.met rfl rfl) rfl (Qz (hf.as 3 s.tree (by omega) rfl) (hg.as 3 s'.tree (by omega) rfl) _) ?_; rintro _ _ _ _ ⟨rfl, rfl, rfl⟩; refine Hx ?_; refine Dm 13 rfl (Ik rfl) ?_; refine Dm 14 rfl (Ac rfl) ?_
   apply X6 77 88 rfl
   ·intro g6_15 hk
    try simp only [nb] at g6_15
    refine Dm 15 rfl (Ae rfl) ?_; refine El 16 [27] rfl (by kernel_rfl) rfl Al (A7 rfl) (.met rfl rfl) rfl ?_
    first | refine Dm 17 rfl (A4 rfl rfl 4 rfl) ?_ | refine Dm 17 rfl (A5 rfl rfl 4 rfl) ?_
    refine El 18 [27] rfl (by kernel_rfl) rfl Al (Bz rfl) (.met rfl rfl) rfl ?_; refine Dm 19 rfl (Ae rfl) ?_; refine El 20 [27] rfl (by kernel_rfl) rfl Al (A7 rfl) (.met rfl rfl) rfl ?_
    first | refine Dm 21 rfl (A4 rfl rfl 4 rfl) ?_ | refine Dm 21 rfl (A5 rfl rfl 4 rfl) ?_
    refine El 22 [27] rfl (by kernel_rfl) rfl Al (Bz rfl) (.met rfl rfl) rfl ?_; refine Hq 23 rfl (by kernel_rfl) rfl rfl (.met rfl rfl) rfl (Qz (hf.as 4 u.tree (by omega) rfl) (hg.as 4 u'.tree (by omega) rfl) _) ?_; rintro _ _ _ _ ⟨rfl, rfl, rfl⟩; refine Hx ?_; refine Dm 24 rfl (Ik rfl) ?_; refine Dm 25 rfl (C9 rfl rfl) ?_
    exact F6 10 rfl rfl hk
   ·intro _ hk; refine Ds 15 rfl rfl rfl ?_; refine Ds 16 rfl rfl rfl ?_; refine Ds 17 rfl rfl rfl ?_; refine Ds 18 rfl rfl rfl ?_; refine Ds 19 rfl rfl rfl ?_; refine Ds 20 rfl rfl rfl ?_; refine Ds 21 rfl rfl rfl ?_; refine Ds 22 rfl rfl rfl ?_; refine Ds 23 rfl rfl rfl ?_; refine Ds 24 rfl rfl rfl ?_; refine Dm 25 rfl (D3 rfl rfl) ?_
    exact F6 10 rfl rfl hk
   refine Da 26 rfl (D3 rfl rfl) ?_; refine Au (by kernel_rfl) ?_; refine Av rfl ?_ ?_
   ·intro c2
    try simp only [nb] at c2
    refine Se rfl (Oa rfl (Aa (Ag (.tmp rfl .nil) ?_))); refine ⟨I, L, .refl _, Bt, ?_, rfl⟩
    have hx : (Ex.fn h1 z s u b).alk (Ex.fn h1' z' s' u' b') f t = false := by
     simp only [Ex.alk]
     rcases c2 with h | h <;> simp [h]
    rw [hx]; rfl
   intro c2
   try simp only [nb] at c2
   have hsu := c2
   refine Af (Ab (Se rfl ?_)); refine Aw rfl .free rfl ?_; refine Ca rfl (B9 hf.rep _) ?_; rintro _ J _ e0 ⟨ok, ck, rfl, hk1, rfl⟩
   have hf := hf.mono e0
   have hg := hg.mono e0
   have hfr := hfr.mono e0
   have hto := hto.mono e0
   have hle := hle.trans e0
   rw [hki] at hk1; rw [hki]; refine On rfl (Om rfl (Aa (Ai ?_))); refine Dd ?_; refine Se rfl (Oc rfl rfl rfl (Aa (Ab ?_))); refine Bn rfl (by first | rfl | decide | (simp; done) | omega) ?_; refine Af (Ab (Ai (Se rfl ?_)))
   first | refine Bi rfl rfl _ rfl .free rfl ?_ | refine Bj rfl rfl _ rfl .free rfl ?_
   refine Dl rfl .free rfl ?_; refine Oa rfl (Aa (Ab ?_)); refine Do 24 rfl rfl ?_; refine Da 0 rfl (Ae rfl) ?_; refine Dt 1 [24] rfl (A7 rfl) ?_; refine Da 2 rfl (Ac rfl) ?_
   first | refine Da 3 rfl (A4 rfl rfl _ rfl) ?_ | refine Da 3 rfl (A5 rfl rfl _ rfl) ?_
   refine Dt 4 [24] rfl (Bz rfl) ?_; refine Da 5 rfl (Ae rfl) ?_; refine Dt 6 [24] rfl (A7 rfl) ?_; refine Da 7 rfl (Ac rfl) ?_
   first | refine Da 8 rfl (A4 rfl rfl _ rfl) ?_ | refine Da 8 rfl (A5 rfl rfl _ rfl) ?_
   refine Dt 9 [24] rfl (Bz rfl) ?_; refine Da 10 rfl (Ac rfl) ?_; refine Dt 11 [24] rfl (Cd rfl) ?_; refine Da 12 rfl (Ac rfl) ?_; refine Da 16 rfl (Ac rfl) ?_; refine Dt 17 [24] rfl (Cd rfl) ?_; refine Da 18 rfl (Ac rfl) ?_; refine Dc 13 rfl rfl (Bb hf.rep hok0 _ _) ?_; rintro _ J1 _ e1 ⟨o1, k1, rfl, hs1, rfl⟩; refine Hx ?_; refine C6 14 rfl (by kernel_rfl) rfl rfl rfl (by rfl) (by rfl) (by rfl) (by decide) (by decide) (by rfl) .free rfl (.inr Al) ?_; intro b111; refine Ce ?_; intro hz
   have e2 := e1.trans hz
   refine Dc 15 rfl rfl (A1 (Ax (xs := [.slice of f.length cf, .slice o1 (List.length _) k1]) (ys := [])) (hfr.mono e2) (hs1.mono hz) (Ex.binds_room0 (by omega)) _) ?_; rintro _ J3 _ e3 ⟨o3, k3, rfl, hs3, rfl⟩
   have e4 := e2.trans e3
   refine Hx ?_; refine Dc 19 rfl rfl (Bb (hg.mono e4).rep hok0' _ _) ?_; rintro _ J4 _ e5 ⟨o4, k4, rfl, hs4, rfl⟩
   have e45 := e4.trans e5
   refine Hx ?_; refine C6 20 rfl (by kernel_rfl) rfl rfl rfl (by rfl) (by rfl) (by rfl) (by decide) (by decide) (by rfl) .free rfl (.inr Al) ?_; intro b117; refine Ce ?_; intro hy
   have e6 := e4.trans (e5.trans hy)
   refine Dc 21 rfl rfl (A1 (Ax (xs := [.slice ot t.length ct, .slice o4 (List.length _) k4]) (ys := [])) (hto.mono e6) (hs4.mono hy) (Ex.binds_room0 (by omega)) _) ?_; rintro _ J5 _ e7 ⟨o5, k5, rfl, hs5, rfl⟩
   have e8 := e6.trans e7
   have hs3 := hs3.mono (e5.trans (hy.trans e7))
   have hf3 := hf.mono e8
   have hg3 := hg.mono e8
   refine Hx ?_
   refine Dc 22 rfl rfl (ihn (f := f ++ [h1, z]) (t := t ++ [h1', z']) (by omega) (hf3.as 5 b.tree (by omega) rfl) hok.2 (hg3.as 5 b'.tree (by omega) rfl) hok'.2 hs3 hs5 (hnf.add (by intro y hy; simp only [List.mem_cons, List.not_mem_nil, or_false] at hy; rcases hy with rfl | rfl; exact hok.1.1.1.1.1; exact hok.1.1.1.1.2)) (hnt.add (by intro y hy; simp only [List.mem_cons, List.not_mem_nil, or_false] at hy; rcases hy with rfl | rfl; exact hok'.1.1.1.1.1; exact hok'.1.1.1.1.2)) (by first | omega | (simp only [List.length_append, List.length_cons, List.length_nil]; omega)) (by first | omega | (simp only [List.length_append, List.length_cons, List.length_nil]; omega)) _) ?_
   rintro _ J6 _ e9 ⟨rfl, rfl⟩
   have e10 := e8.trans e9
   refine Hx ?_; refine Da 23 rfl (Ik rfl) ?_; refine Au (by kernel_rfl) ?_; refine Av rfl ?_ ?_
   ·intro c4
    try simp only [nb] at c4
    refine Se rfl (Oa rfl (Aa (Ag (.tmp rfl .nil) ?_))); refine ⟨_, L, hle.trans e10, Bt, ?_, rfl⟩
    have hx : (Ex.fn h1 z s u b).alk (Ex.fn h1' z' s' u' b') f t = false := by
     simp only [Ex.alk]; simp [c4]
    rw [hx]; rfl
   intro c4
   try simp only [nb] at c4
   have hq0 := c4
   have hf := hf3.mono e9
   have hg := hg3.mono e9
   have hfr := hfr.mono e10
   have hto := hto.mono e10
   have hk1 := hk1.mono e10
   have hle := hle.trans e10
   refine Af (Ak (Ah rfl ?_)); refine Or rfl rfl rfl ?_; refine Om rfl (Aa ?_); refine Bm ?_; refine Se rfl (Oc rfl rfl rfl (Aa (Ab ?_))); refine Co rfl (by first | rfl | decide | (simp; done) | omega) ?_; refine Bq rfl ?_; refine Se rfl (Oa rfl (Aa (Ag (.tmp rfl .nil) ?_))); refine ⟨_, L, hle, Bt, ?_, rfl⟩
   have hx : (Ex.fn h1 z s u b).alk (Ex.fn h1' z' s' u' b') f t = true := by
    simp only [Ex.alk]; simp [hq0, hsu]
   rw [hx]; rfl
  ·skip
   have hlen : (Ex.un o a).tree.parts.length = 2 := rfl
   have hlen' : (Ex.un o a').tree.parts.length = 2 := rfl
   have hki := G5 o a
   have hhd : (Ex.un o a).tree.head = o.txt := rfl
   have hx3 : ¬ (Ex.un o a).tree.head = [102, 117, 110] := o.txt_ne.2.2.1
   have hx4 : ¬ (Ex.un o a').tree.head = [102, 117, 110] := o.txt_ne.2.2.1
   simp only [Ex.un.sizeOf_spec] at hlt
   simp only [Ex.ok, Bool.and_eq_true, decide_eq_true_eq] at hok hok'
   simp only [Ex.size] at hfl htl
   refine Do 27 rfl rfl ?_; refine Dt 0 [27] rfl (Cd rfl) ?_; refine Dc 1 rfl rfl (Bk hf.rep _) ?_; rintro _ _ _ _ ⟨rfl, rfl, rfl⟩; refine Hx ?_; refine Da 2 rfl (J8 rfl rfl rfl) ?_; refine Da 3 rfl (Ac rfl) ?_; refine E6 (t := 66) rfl (v' := .bool false) (by first | simp [*] | (simp; omega)) ?_; refine Ds 4 rfl rfl rfl ?_; refine Ds 5 rfl rfl rfl ?_; refine Ds 6 rfl rfl rfl ?_; refine Ds 7 rfl rfl rfl ?_; refine Ds 8 rfl rfl rfl ?_; refine Ds 9 rfl rfl rfl ?_; refine Ds 10 rfl rfl rfl ?_; refine Ds 11 rfl rfl rfl ?_; refine Ds 12 rfl rfl rfl ?_; refine Ds 13 rfl rfl rfl ?_
   refine Ds 14 rfl rfl rfl ?_; refine As 15 rfl (by kernel_rfl) rfl (.inr Al) rfl rfl rfl ?_; refine As 16 rfl (by kernel_rfl) rfl (.inr Al) rfl rfl rfl ?_; refine As 17 rfl (by kernel_rfl) rfl (.inr Al) rfl rfl rfl ?_; refine As 18 rfl (by kernel_rfl) rfl (.inr Al) rfl rfl rfl ?_; refine As 19 rfl (by kernel_rfl) rfl (.inr Al) rfl rfl rfl ?_; refine As 20 rfl (by kernel_rfl) rfl (.inr Al) rfl rfl rfl ?_; refine As 21 rfl (by kernel_rfl) rfl (.inr Al) rfl rfl rfl ?_; refine As 22 rfl (by kernel_rfl) rfl (.inr Al) rfl rfl rfl ?_; refine As 23 rfl (by kernel_rfl) rfl (.inr Al) rfl rfl rfl ?_
   refine As 24 rfl (by kernel_rfl) rfl (.inr Al) rfl rfl rfl ?_; refine Ds 25 rfl rfl rfl ?_; refine Da 26 rfl (C9 rfl rfl) ?_; refine Au (by kernel_rfl) ?_; refine A8 rfl ?_; refine Af (Ab (Se rfl ?_)); refine Aw rfl .free rfl ?_; refine Ca rfl (B9 hf.rep _) ?_; rintro _ J _ e0 ⟨ok, ck, rfl, hk1, rfl⟩
   have hf := hf.mono e0
   have hg := hg.mono e0
   have hfr := hfr.mono e0
   have hto := hto.mono e0
   have hle := hle.trans e0
   rw [hki] at hk1; rw [hki]; refine On rfl (Om rfl (Aa (Ai ?_))); refine Dd ?_; refine Se rfl (Oc rfl rfl rfl (Aa (Ab ?_))); refine Bn rfl (by first | rfl | decide | (simp; done) | omega) ?_; refine Af (Ab (Ai (Se rfl ?_)))
   first | refine Bi rfl rfl _ rfl .free rfl ?_ | refine Bj rfl rfl _ rfl .free rfl ?_
   refine Dl rfl .free rfl ?_; refine Oa rfl (Aa (Ab ?_)); refine Do 24 rfl rfl ?_; refine Da 0 rfl (Ae rfl) ?_; refine Dt 1 [24] rfl (A7 rfl) ?_; refine Da 2 rfl (Ac rfl) ?_
   first | refine Da 3 rfl (A4 rfl rfl _ rfl) ?_ | refine Da 3 rfl (A5 rfl rfl _ rfl) ?_
   refine Dt 4 [24] rfl (Bz rfl) ?_; refine Da 5 rfl (Ae rfl) ?_; refine Dt 6 [24] rfl (A7 rfl) ?_; refine Da 7 rfl (Ac rfl) ?_
   first | refine Da 8 rfl (A4 rfl rfl _ rfl) ?_ | refine Da 8 rfl (A5 rfl rfl _ rfl) ?_
   refine Dt 9 [24] rfl (Bz rfl) ?_; refine Da 10 rfl (Ac rfl) ?_; refine Dt 11 [24] rfl (Cd rfl) ?_; refine Da 12 rfl (Ac rfl) ?_; refine Da 16 rfl (Ac rfl) ?_; refine Dt 17 [24] rfl (Cd rfl) ?_; refine Da 18 rfl (Ac rfl) ?_; refine Dc 13 rfl rfl (Bb hf.rep hok0 _ _) ?_; rintro _ J1 _ e1 ⟨o1, k1, rfl, hs1, rfl⟩; refine Hx ?_; refine C6 14 rfl (by kernel_rfl) rfl rfl rfl (by rfl) (by rfl) (by rfl) (by decide) (by decide) (by rfl) .free rfl (.inr Al) ?_; intro b111; refine Ce ?_; intro hz
   have e2 := e1.trans hz
   refine Dc 15 rfl rfl (A1 (Ax (xs := [.slice of f.length cf, .slice o1 (List.length _) k1]) (ys := [])) (hfr.mono e2) (hs1.mono hz) (Ex.binds_room0 (by omega)) _) ?_; rintro _ J3 _ e3 ⟨o3, k3, rfl, hs3, rfl⟩
   have e4 := e2.trans e3
   refine Hx ?_; refine Dc 19 rfl rfl (Bb (hg.mono e4).rep hok0' _ _) ?_; rintro _ J4 _ e5 ⟨o4, k4, rfl, hs4, rfl⟩
   have e45 := e4.trans e5
   refine Hx ?_; refine C6 20 rfl (by kernel_rfl) rfl rfl rfl (by rfl) (by rfl) (by rfl) (by decide) (by decide) (by rfl) .free rfl (.inr Al) ?_; intro b117; refine Ce ?_; intro hy
   have e6 := e4.trans (e5.trans hy)
   refine Dc 21 rfl rfl (A1 (Ax (xs := [.slice ot t.length ct, .slice o4 (List.length _) k4]) (ys := [])) (hto.mono e6) (hs4.mono hy) (Ex.binds_room0 (by omega)) _) ?_; rintro _ J5 _ e7 ⟨o5, k5, rfl, hs5, rfl⟩
   have e8 := e6.trans e7
   have hs3 := hs3.mono (e5.trans (hy.trans e7))
   have hf3 := hf.mono e8
   have hg3 := hg.mono e8
   refine Hx ?_; refine Dc 22 rfl rfl (ihn (f := f ++ []) (t := t ++ []) (by omega) (hf3.as 1 a.tree (by omega) rfl) hok (hg3.as 1 a'.tree (by omega) rfl) hok' hs3 hs5 (by simpa using hnf) (by simpa using hnt) (by first | omega | (simp only [List.length_append, List.length_cons, List.length_nil]; omega)) (by first | omega | (simp only [List.length_append, List.length_cons, List.length_nil]; omega)) _) ?_; rintro _ J6 _ e9 ⟨rfl, rfl⟩
   have e10 := e8.trans e9
   simp only [List.append_nil]
   refine Hx ?_; refine Da 23 rfl (Ik rfl) ?_; refine Au (by kernel_rfl) ?_; refine Av rfl ?_ ?_
   ·intro c4
    try simp only [nb] at c4
    refine Se rfl (Oa rfl (Aa (Ag (.tmp rfl .nil) ?_))); refine ⟨_, L, hle.trans e10, Bt, ?_, rfl⟩
    have hx : (Ex.un o a).alk (Ex.un o a') f t = false := by
     simp only [Ex.alk]; simp [c4]
    rw [hx]; rfl
   intro c4
   try simp only [nb] at c4
   have hq0 := c4
   have hf := hf3.mono e9
   have hg := hg3.mono e9
   have hfr := hfr.mono e10
   have hto := hto.mono e10
   have hk1 := hk1.mono e10
   have hle := hle.trans e10
   refine Af (Ak (Ah rfl ?_)); refine Or rfl rfl rfl ?_; refine Om rfl (Aa ?_); refine Bm ?_; refine Se rfl (Oc rfl rfl rfl (Aa (Ab ?_))); refine Co rfl (by first | rfl | decide | (simp; done) | omega) ?_; refine Bq rfl ?_; refine Se rfl (Oa rfl (Aa (Ag (.tmp rfl .nil) ?_))); refine ⟨_, L, hle, Bt, ?_, rfl⟩
   have hx : (Ex.un o a).alk (Ex.un o a') f t = true := by
    simp only [Ex.alk]; simp [hq0]
   rw [hx]; rfl
theorem To (a b : Am) (ha : a.length ≤ Ap) (hb : b.length ≤ Ap) (I : Heap) (L : Bc) : Fun Tryz.prog 8 [.string (str a), .string (str b)] I L (fun v I' L' => v = .bool (Im a b) ∧ L = L') := by
 refine Aj (by simp) ?_; refine Se rfl (Oa rfl (Aa (Se rfl (Om rfl ?_)))); refine Ca rfl (H6 a ha _ _) ?_; rintro _ J _ e1 ⟨t1, cs1, ok1, rfl, hr1, rfl, hp1⟩; obtain ⟨o1, k1, _, rfl, -⟩ := hr1.open; refine Om rfl (Oe rfl rfl (Oe rfl rfl ?_)); refine At .free rfl ?_; intro b5; refine Bp rfl rfl rfl rfl .free ?_; refine Oa rfl (Aa (Se rfl (Om rfl ?_))); refine Ca rfl (H6 b hb _ _) ?_; rintro _ J2 _ e2 ⟨t2, cs2, ok2, rfl, hr2, rfl, hp2⟩; obtain ⟨o2, k2, _, rfl, -⟩ := hr2.open; refine Om rfl (Oe rfl rfl (Oe rfl rfl ?_)); refine At .free rfl ?_; intro b7; refine Bp rfl rfl rfl rfl .free ?_
 refine Oa rfl (Aa (Se rfl (Om rfl (Om rfl ?_))))
 apply D4 20 22 rfl
 ·intro g3_2 hk
  try simp only [nb] at g3_2
  refine Ow rfl (Ot rfl rfl ?_)
  exact A0 1 rfl rfl hk
 ·intro _ hk; refine A9 1 rfl ?_; refine Of rfl rfl ?_
  exact A0 1 rfl rfl hk
 refine Om rfl ?_
 apply D4 23 27 rfl
 ·intro g3_5 hk
  try simp only [nb] at g3_5
  obtain ⟨e, he, rfl, hok1, -, hfi1, -⟩ := K0 hp1 g3_5.1; obtain ⟨e', he', rfl, hok2, -, hfi2, -⟩ := K0 hp2 g3_5.2
  have hz1 := (Hw he).2.2.1
  have hz2 := (Hw he').2.2.1
  refine Aw rfl (.met rfl rfl) rfl ?_; refine Aw rfl (.met rfl rfl) rfl ?_; refine B6 rfl (.met rfl rfl) rfl (Z9 _ (Nat.lt_succ_self _) (hr1.mono e2) hok1 hr2 hok2 (Jj _) (Jj _) (by intro _ h; cases h) (by intro _ h; cases h) (by simp only [List.length_nil]; omega) (by simp only [List.length_nil]; omega) _) ?_; rintro _ J3 _ e3 ⟨rfl, rfl⟩; rw [show e.alk e' [] [] = Im a b from (L2 he he').symm]; refine Cz (fun w h => Mem.le e3 h) ?_; refine Ot rfl rfl ?_
  exact A0 3 rfl rfl hk
 ·intro _ hk; refine A9 3 rfl ?_; refine Of rfl rfl ?_
  exact A0 3 rfl rfl hk
 refine Oa rfl (Aa (Ag (.tmp rfl .nil) ?_)); refine ⟨J2, L, e1.trans e2, Bt, ?_, rfl⟩
 by_cases h1 : ok1 = true
 ·by_cases h2 : ok2 = true
  ·simp [By, h1, h2]
  ·rw [L1 (.inr (Lz hp2 (by simpa using h2)))]; simp [By, h2]
 ·rw [L1 (.inl (Lz hp1 (by simpa using h1)))]; simp [By, h1]
open Go.Shelf
def Sk : Go.Shelf.Ren := ⟨fun | 171 => 112 | 243 => 127 | 246 => 131 | 283 => 132 | 284 => 133 | 285 => 134 | 286 => 135 | 129 => 137 | 317 => 136 | 318 => 138 | 319 => 139 | 320 => 140 | 337 => 141 | 338 => 142 | n => n, fun | 3 => 3 | 9 => 9 | 2 => 2 | 4 => 4 | 171 => 146 | 0 => 0 | 53 => 147 | 37 => 22 | 5 => 5 | 173 => 150 | 212 => 153 | 51 => 154 | 20 => 20 | 213 => 155 | 46 => 157 | 232 => 160 | 233 => 161 | n => n, fun | 17 => 0 | 18 => 1 | 19 => 2 | n => n⟩
theorem Yv : Go.Proofs.LaysM.n171 Tryz.prog Sk := {
 mixed := by kernel_rfl
 f129 := Tryz.func137.trans (congrArg some (by kernel_rfl))
 f171 := Tryz.func112.trans (congrArg some (by kernel_rfl))
 f243 := Tryz.func127.trans (congrArg some (by kernel_rfl))
 f246 := Tryz.func131.trans (congrArg some (by kernel_rfl))
 f283 := Tryz.func132.trans (congrArg some (by kernel_rfl))
 f284 := Tryz.func133.trans (congrArg some (by kernel_rfl))
 f285 := Tryz.func134.trans (congrArg some (by kernel_rfl))
 f286 := Tryz.func135.trans (congrArg some (by kernel_rfl))
 f317 := Tryz.func136.trans (congrArg some (by kernel_rfl))
 f318 := Tryz.func138.trans (congrArg some (by kernel_rfl))
 f319 := Tryz.func139.trans (congrArg some (by kernel_rfl))
 f320 := Tryz.func140.trans (congrArg some (by kernel_rfl))
 f337 := Tryz.func141.trans (congrArg some (by kernel_rfl))
 f338 := Tryz.func142.trans (congrArg some (by kernel_rfl))
 t0 := Tryz.underlying0
 a0 := Tryz.isAgg0
 z0 := Tryz.sizeOf0
 v0 := Tryz.zeroValue0
 t2 := Tryz.underlying2
 a2 := Tryz.isAgg2
 z2 := Tryz.sizeOf2
 v2 := Tryz.zeroValue2
 t3 := Tryz.underlying3
 a3 := Tryz.isAgg3
 z3 := Tryz.sizeOf3
 v3 := Tryz.zeroValue3
 t4 := Tryz.underlying4
 a4 := Tryz.isAgg4
 z4 := Tryz.sizeOf4
 v4 := Tryz.zeroValue4
 t5 := Tryz.underlying5
 a5 := Tryz.isAgg5
 z5 := Tryz.sizeOf5
 v5 := Tryz.zeroValue5
 t9 := Tryz.underlying9
 a9 := Tryz.isAgg9
 z9 := Tryz.sizeOf9
 v9 := Tryz.zeroValue9
 t20 := Tryz.underlying20
 a20 := Tryz.isAgg20
 z20 := Tryz.sizeOf20
 v20 := Tryz.zeroValue20
 t37 := Tryz.underlying22
 a37 := Tryz.isAgg22
 z37 := Tryz.sizeOf22
 v37 := Tryz.zeroValue22
 t46 := Tryz.underlying157
 a46 := Tryz.isAgg157
 z46 := Tryz.sizeOf157
 v46 := Tryz.zeroValue157
 t51 := Tryz.underlying154
 a51 := Tryz.isAgg154
 z51 := Tryz.sizeOf154
 v51 := Tryz.zeroValue154
 t53 := Tryz.underlying147
 a53 := Tryz.isAgg147
 z53 := Tryz.sizeOf147
 v53 := Tryz.zeroValue147
 t171 := Tryz.underlying146
 a171 := Tryz.isAgg146
 z171 := Tryz.sizeOf146
 v171 := Tryz.zeroValue146
 t173 := Tryz.underlying150
 a173 := Tryz.isAgg150
 z173 := Tryz.sizeOf150
 v173 := Tryz.zeroValue150
 t212 := Tryz.underlying153
 a212 := Tryz.isAgg153
 z212 := Tryz.sizeOf153
 v212 := Tryz.zeroValue153
 t213 := Tryz.underlying155
 a213 := Tryz.isAgg155
 z213 := Tryz.sizeOf155
 t232 := Tryz.underlying160
 a232 := Tryz.isAgg160
 z232 := Tryz.sizeOf160
 v232 := Tryz.zeroValue160
 t233 := Tryz.underlying161
 a233 := Tryz.isAgg161
 z233 := Tryz.sizeOf161
 v233 := Tryz.zeroValue161
 g17 := by kernel_rfl
 g18 := by kernel_rfl
 g19 := by kernel_rfl
 i0 := by kernel_rfl
 i2 := by kernel_rfl
 i3 := by kernel_rfl
 i4 := by kernel_rfl
 i5 := by kernel_rfl
 i9 := by kernel_rfl
 i20 := by kernel_rfl
 i37 := by kernel_rfl
 i46 := by kernel_rfl
 i51 := by kernel_rfl
 i53 := by kernel_rfl
 i171 := by kernel_rfl
 i173 := by kernel_rfl
 i212 := by kernel_rfl
 i232 := by kernel_rfl
 i233 := by kernel_rfl
 m17 := by kernel_rfl
 m18 := by kernel_rfl
 m19 := by kernel_rfl }
def Tab (I : Heap) : Prop := ∀ L w, Mem I L w → Lib.TabIs Tryz.prog w "internal/strconv.uint64pow10" .u64 Lib.pow10Tab
theorem Tab.mono {I I' : Heap} (h : Tab I) (hle : HLe I I') : Tab I' := fun L w hm => h L w (hm.le hle)
theorem V8 (n : Nat) : Lib.decDigits n = Iy n := by
 induction n using Nat.strongRecOn with
 | _ n ih =>
  rw [Lib.decDigits]
  by_cases h : n < 10
  ·rw [dif_pos h, Ft h]
  ·rw [dif_neg h, G3 h, ih (n / 10) (by omega)]
def Yr (n : Int) : Am := if n < 0 then 45 :: Iy n.natAbs else Iy n.toNat
theorem Ys (n : Nat) : Yr (n : Nat) = Iy n := by unfold Yr; rw [if_neg (by omega)]; rfl
theorem W5 (n : Int) : Lib.itoa n = Yr n := by unfold Lib.itoa Yr; rw [V8, V8]
theorem Mem.grow {I : Heap} {L : Bc} {w : World} (h : Mem I L w) (k : Nat) (os : Array Obj) : Mem I L (Sort.grow (w.drewN k) os) := by
 have hk : ∀ b o, w.heap[b]? = some o → (w.heap ++ os)[b]? = some o := fun b o hb => by
  have hlt : b < w.heap.size := by
   rcases Nat.lt_or_ge b w.heap.size with g | g
   ·exact g
   ·rw [Array.getElem?_eq_none g] at hb; cases hb
  rw [Array.getElem?_append_left hlt]; exact hb
 exact ⟨⟨fun b o hb => hk b o (h.1.1 b o hb), h.1.2⟩, fun p hp => ⟨hk _ _ (h.2.1 p hp).1, (h.2.1 p hp).2⟩, h.2.2⟩
theorem N9 {I : Heap} (ht : Tab I) (n : Int) (h0 : -9223372036854775808 ≤ n) (h1 : n ≤ 9223372036854775807) (L : Bc) : Fun Tryz.prog 112 [.int .i64 n] I L (D1 (.string (str (Yr n))) I L) := by
 refine ⟨fun w hm => (Any.strconv_Itoa Yv n h0 h1 w (ht L w hm)).mono ?_⟩; rintro e w' ⟨rfl, k, os, rfl⟩; refine ⟨_, I, L, rfl, .refl _, hm.grow k os, ?_⟩; rw [W5]
 exact ⟨rfl, rfl, rfl⟩
def I9 : List Am → Nat → List MapEntry
 | [], _ => []
 | s :: l, i => ⟨.string (str s), .bool true, i⟩ :: I9 l (i + 1)
def Fv (l : List Am) : Obj := .map (I9 l 0).toArray l.length
theorem Qx (s : Am) : ∀ (l : List Am) (i : Nat), I9 (l ++ [s]) i = I9 l i ++ [⟨.string (str s), .bool true, i + l.length⟩]
 | [], i => rfl
 | x :: l, i => by simp only [List.cons_append, I9, Qx s l (i + 1), List.length_cons]; rw [show i + 1 + l.length = i + (l.length + 1) by omega]
theorem P4 (s x : Am) : Instr.sameNow .string (.string (str s)) (.string (str x)) = some (decide (s = x)) := by
 simp only [Instr.sameNow, Option.some.injEq]
 show (s.toArray == x.toArray) = _
 rw [Bool.eq_iff_iff, beq_iff_eq, decide_eq_true_eq]
 constructor
 ·intro h; simpa using congrArg Array.toList h
 ·intro h; rw [h]
theorem Wb (s : Am) : ∀ (l : List Am) (i j : Nat), s ∈ l → ∃ k, Instr.findNow .string (.string (str s)) (I9 l i) j = some (some (k, .bool true))
 | [], i, j, h => by cases h
 | x :: l, i, j, h => by
  simp only [I9, Instr.findNow, P4]
  by_cases e : s = x
  ·simp [e]
  ·simp only [e, decide_false]
   rcases List.mem_cons.1 h with h | h
   ·exact absurd h e
   ·exact Wb s l (i + 1) (j + 1) h
theorem Pk (s : Am) : ∀ (l : List Am) (i j : Nat), s ∉ l → Instr.findNow .string (.string (str s)) (I9 l i) j = some none
 | [], i, j, h => rfl
 | x :: l, i, j, h => by
  simp only [I9, Instr.findNow, P4]
  have e : s ≠ x := fun e => h (e ▸ .head _)
  simp only [e, decide_false]
  exact Pk s l (i + 1) (j + 1) fun hh => h (.tail _ hh)
section
variable {P : Program} {f : FuncId} {n : Nat} {I₀ : Heap} {Q : C3} {k : List Item} {E : Gj} {I : Heap} {L : Bc} {ops : Array Oper} {d : Nat} {ty : TypeId} {pos : String} {af : Array Edge} {g : Option (Nat × Bool)} {l : List Oper}
theorem Lv {w : World} {r c : Nat} {es : Array MapEntry} (h : w.heap[r]? = some (.map es c)) : (getObj r).run P w = .ok (.map es c) w := by simp [getObj, Sem.run, h]
theorem P3 {w : World} {r c : Nat} {es : Array MapEntry} {o' : Obj} (h : w.heap[r]? = some (.map es c)) : (setObj r o').run P w = .ok () { w with heap := w.heap.setIfInBounds r o' } := by simp [setObj, Sem.run, h]
theorem Jv {T : TypeId} {sz bb : Nat} {z : List Value} (ht : Aq P T .string sz bb z) (e : Bool) (s : Am) (w : World) : (Instr.checkKey e 10000 T (.string (str s))).run P w = .ok () w := by
 rw [show (10000 : Nat) = 9999 + 1 from rfl]
 unfold Instr.checkKey
 rw [Ad (Ay ht.und w)]
 rfl
theorem Is {T : TypeId} {sz bb : Nat} {z : List Value} (ht : Aq P T .string sz bb z) {v : Value} {es : List MapEntry} {r : Option (Nat × Value)} (h : Instr.findNow .string v es 0 = some r) (w : World) : (Instr.findKey T v es).run P w = .ok r w := by
 unfold Instr.findKey
 rw [Ad (Ay ht.und w), h]
 rfl
theorem Xg {T K V : TypeId} {sz bb : Nat} {z : List Value} [ht : Aq P T (.map K V) sz bb z] (hg : Wants ops E g) (hdn : Nat.blt d n = true)
  (h : ∀ b, A6 P f n I₀ Q ops l k ((d, .map (some b)) :: E) I ((b, Fv []) :: L)) : A6 P f n I₀ Q ops (⟨some d, .makeMap T none, ty, pos, af, g⟩ :: l) k E I L := by
 refine Hk rfl hdn (fun a he => hg.wanted a he) fun a w he hm => ?_
 refine ⟨_, _, I, (w.heap.size, Fv []) :: L, ?_, hm.alloc _, h _⟩
 rfl
theorem Za {T K V : TypeId} {sz bb ks kb vs vb : Nat} {z kz vz : List Value} [ht : Aq P T (.map K V) sz bb z] [hk : Aq P K .string ks kb kz] [hv : Aq P V .bool vs vb vz] {x y : Operand} {b : Nat} {m : List Am} {s : Am}
  (hx : Bo E x = some (.map (some b))) (hy : Bo E y = some (.string (str s))) (hz : ∃ i, P.info? V = some i ∧ i.zero = some (.bool false)) (hm : ∀ w, Mem I L w → w.heap[b]? = some (Fv m)) (hg : Wants ops E g) (hdn : Nat.blt d n = true)
  (h : A6 P f n I₀ Q ops l k ((d, .bool (decide (s ∈ m))) :: E) I L) : A6 P f n I₀ Q ops (⟨some d, .lookup T x y false, ty, pos, af, g⟩ :: l) k E I L := by
 refine Ze rfl hdn (fun a he => hg.wanted a he) (fun a w he hM => ⟨w, ?_, hM⟩) h
 simp only [execOp, he.eval hx, he.eval hy, Instr.lookup]
 refine Ad (a := .bool (decide (s ∈ m))) (w' := w) ?_ |>.trans rfl
 rw [Ad (Ay ht.und w)]
 simp only
 rw [Ad (Lv (hm w hM))]
 simp only [pure_bind]
 rw [Ad (Jv hk _ s w)]
 by_cases hs : s ∈ m
 ·obtain ⟨j, hj⟩ := Wb s m 0 0 hs; rw [Ad (Is hk (show Instr.findNow .string (.string (str s)) (I9 m 0).toArray.toList 0 = _ from hj) w)]
  simp [hs]
 ·rw [Ad (Is hk (show Instr.findNow .string (.string (str s)) (I9 m 0).toArray.toList 0 = _ from Pk s m 0 0 hs) w)]; obtain ⟨i, hi1, hi2⟩ := hz
  have hv1 : (zeroValue V).run P w = .ok (.bool false) w := by
   unfold zeroValue
   rw [Ad (Gh hi1 w), hi2]; rfl
  simp only
  rw [Ad hv1]
  simp [hs]
theorem Um {T K V : TypeId} {sz bb ks kb : Nat} {z kz : List Value} [ht : Aq P T (.map K V) sz bb z] [hk : Aq P K .string ks kb kz] {x y u : Operand} {b : Nat} {m : List Am} {s : Am} {L' : Bc}
  (hx : Bo E x = some (.map (some b))) (hy : Bo E y = some (.string (str s))) (hv : Bo E u = some (.bool true)) (hs : s ∉ m) (hu : Upd b (Fv (m ++ [s])) (Fv m) L L') (hg : Wants ops E g)
  (h : A6 P f n I₀ Q ops l k E I L') : A6 P f n I₀ Q ops (⟨none, .mapUpdate T x y u, ty, pos, af, g⟩ :: l) k E I L := by
 refine Ku rfl (fun a he => hg.wanted a he) (fun a w he hM => ⟨_, .inl ?_, hM.upd hu⟩) h
 simp only [execOp, he.eval hx, he.eval hy, he.eval hv, Instr.mapUpdate]
 refine Ad (a := ()) (w' := { w with heap := w.heap.setIfInBounds b (Fv (m ++ [s])) }) ?_ |>.trans rfl
 rw [Ad (Ay ht.und w)]
 simp only
 rw [Ad (Lv (hM.2.1 _ hu.mem.1).1)]
 simp only [Fv]
 rw [Ad (Jv hk _ s w)]; rw [Ad (Is hk (show Instr.findNow .string (.string (str s)) (I9 m 0).toArray.toList 0 = _ from Pk s m 0 0 hs) w)]
 simp only
 rw [P3 (hM.2.1 _ hu.mem.1).1]
 simp [Qx]
end
theorem Wa (s : Am) : ∀ (l : List Am) (i j : Nat), s ∈ l → ∃ k, Instr.findNow .string (.string (str s)) (I9 l i) j = some (some (j + k, .bool true)) ∧ (I9 l i)[k]? = some ⟨.string (str s), .bool true, i + k⟩
 | [], i, j, h => by cases h
 | x :: l, i, j, h => by
  simp only [I9, Instr.findNow, P4]
  by_cases e : s = x
  ·subst e; exact ⟨0, by simp, by simp⟩
  ·simp only [e, decide_false]
   rcases List.mem_cons.1 h with h | h
   ·exact absurd h e
   ·obtain ⟨k, h1, h2⟩ := Wa s l (i + 1) (j + 1) h
    exact ⟨k + 1, by rw [h1]; simp; omega, by rw [List.getElem?_cons_succ, h2]; congr 2; omega⟩
theorem Xp (s : Am) {P : Program} (w : World) : (Instr.keyThatStays (.string (str s)) (.string (str s))).run P w = .ok (.string (str s)) w := by
 have h : Instr.sameBits 10000 (.string (str s)) (.string (str s)) = true := by
  show (str s == str s) = true
  show (s.toArray == s.toArray) = true
  simp
 unfold Instr.keyThatStays
 rw [if_pos h]; rfl
section
variable {P : Program} {f : FuncId} {n : Nat} {I₀ : Heap} {Q : C3} {k : List Item} {E : Gj} {I : Heap} {L : Bc} {ops : Array Oper} {d : Nat} {ty : TypeId} {pos : String} {af : Array Edge} {g : Option (Nat × Bool)} {l : List Oper}
theorem Zb {T K V : TypeId} {sz bb ks kb : Nat} {z kz : List Value} [ht : Aq P T (.map K V) sz bb z] [hk : Aq P K .string ks kb kz] {x y u : Operand} {b : Nat} {m : List Am} {s : Am} {L' : Bc}
  (hx : Bo E x = some (.map (some b))) (hy : Bo E y = some (.string (str s))) (hv : Bo E u = some (.bool true)) (hu : Upd b (Fv (En m s)) (Fv m) L L') (hg : Wants ops E g)
  (h : A6 P f n I₀ Q ops l k E I L') : A6 P f n I₀ Q ops (⟨none, .mapUpdate T x y u, ty, pos, af, g⟩ :: l) k E I L := by
 by_cases hs : s ∈ m
 ·refine Ku rfl (fun a he => hg.wanted a he) (fun a w he hM => ⟨_, .inl ?_, hM.upd hu⟩) h
  simp only [execOp, he.eval hx, he.eval hy, he.eval hv, Instr.mapUpdate]
  refine Ad (a := ()) (w' := { w with heap := w.heap.setIfInBounds b (Fv (En m s)) }) ?_ |>.trans rfl
  rw [Ad (Ay ht.und w)]
  simp only
  rw [Ad (Lv (hM.2.1 _ hu.mem.1).1)]
  simp only [Fv]
  rw [Ad (Jv hk _ s w)]; obtain ⟨i, hi1, hi2⟩ := Wa s m 0 0 hs; rw [Nat.zero_add] at hi1 hi2; rw [Ad (Is hk (show Instr.findNow .string (.string (str s)) (I9 m 0).toArray.toList 0 = _ from hi1) w)]
  simp only [List.getElem?_toArray, hi2, Option.map_some, Option.getD_some]
  rw [Ad (Xp s w), P3 (hM.2.1 _ hu.mem.1).1]
  have e1 : En m s = m := by simp [En, hs]
  have e2 : (I9 m 0).toArray.modify i (fun e => { e with key := .string (str s), val := .bool true }) = (I9 m 0).toArray := by
   apply Array.ext
   ·simp
   ·intro j h1 h2; rw [Array.getElem_modify]
    split
    ·rename_i hij
     subst hij
     have h3 : (I9 m 0)[i]? = some ((I9 m 0)[i]'(by simpa using h2)) := List.getElem?_eq_getElem _
     rw [hi2] at h3
     simp only [Option.some.injEq] at h3
     simp only [List.getElem_toArray, ← h3]
    ·rfl
  rw [e1, e2]
 ·have e1 : En m s = m ++ [s] := by simp [En, hs]
  rw [e1] at hu
  exact Um hx hy hv hs hu hg h
end
section
variable {P : Program} {f : FuncId} {n : Nat} {I₀ : Heap} {Q : C3} {k : List Item} {E : Gj} {I : Heap} {id : Nat} {ops : Array Oper} {a b c p q r s t u v : Nat × Obj} {X A B L R : Bc} {w : World}
theorem Aat {z m c : Nat} {xs : List Value} {B : H3} (h : Cy z m c xs B) : ∃ a j, Bd m c B = .slice a m j := by
 cases B with
 | none => obtain ⟨_, rfl, rfl⟩ := h; exact ⟨_, _, rfl⟩
 | some p => exact ⟨_, _, rfl⟩
theorem Abw {b : Nat} {o o' : Obj} {p p1 p2 p3 p4 p5 p6 : Nat × Obj} : Upd b o' o (p :: p1 :: p2 :: p3 :: p4 :: p5 :: p6 :: (b, o) :: L) (p :: p1 :: p2 :: p3 :: p4 :: p5 :: p6 :: (b, o') :: L) := .there u6
theorem Mem.nq3 (h : Mem I (p :: q :: r :: a :: b :: R) w) : Mem I (a :: b :: p :: q :: r :: R) w := h.perm (List.perm_append_comm_assoc [p, q, r] [a, b] R)
theorem Mem.nq4 (h : Mem I (p :: q :: r :: s :: a :: b :: R) w) : Mem I (a :: b :: p :: q :: r :: s :: R) w := h.perm (List.perm_append_comm_assoc [p, q, r, s] [a, b] R)
theorem Mem.qn4 (h : Mem I (a :: b :: p :: q :: r :: s :: R) w) : Mem I (p :: q :: r :: s :: a :: b :: R) w := h.perm (List.perm_append_comm_assoc [a, b] [p, q, r, s] R)
theorem Mem.kv (h : Mem I (X ++ (a :: b :: c :: (A ++ L))) w) : Mem I (a :: b :: c :: (A ++ (X ++ L))) w := h.perm (List.perm_append_comm_assoc X (a :: b :: c :: A) L)
theorem Mem.vk (h : Mem I (a :: b :: c :: (A ++ (X ++ L))) w) : Mem I (X ++ (a :: b :: c :: (A ++ L))) w := h.perm (List.perm_append_comm_assoc (a :: b :: c :: A) X L)
theorem Mem.kv2 (h : Mem I (p :: q :: a :: b :: c :: (A ++ L)) w) : Mem I (a :: b :: c :: (A ++ (p :: q :: L))) w := Mem.kv (X := [p, q]) h
theorem Mem.vk2 (h : Mem I (a :: b :: c :: (A ++ (p :: q :: L))) w) : Mem I (p :: q :: a :: b :: c :: (A ++ L)) w := Mem.vk (X := [p, q]) h
theorem Mem.kv4 (h : Mem I (p :: q :: r :: s :: a :: b :: c :: (A ++ L)) w) : Mem I (a :: b :: c :: (A ++ (p :: q :: r :: s :: L))) w := Mem.kv (X := [p, q, r, s]) h
theorem Mem.vk4 (h : Mem I (a :: b :: c :: (A ++ (p :: q :: r :: s :: L))) w) : Mem I (p :: q :: r :: s :: a :: b :: c :: (A ++ L)) w := Mem.vk (X := [p, q, r, s]) h
theorem Mem.w3 (h : Mem I (p :: a :: b :: c :: L) w) : Mem I (a :: b :: c :: p :: L) w := h.perm (List.perm_append_comm_assoc [p] [a, b, c] L)
theorem Mem.uu7 (h : Mem I (a :: b :: c :: p :: q :: r :: s :: (X ++ L)) w) : Mem I (X ++ a :: b :: c :: p :: q :: r :: s :: L) w := h.perm (List.perm_append_comm_assoc [a, b, c, p, q, r, s] X L)
theorem Abm (N : Nat) (hN : ops.size = N) (hm : P.follows .mixedOrders = true) (h : Cn P f n I₀ Q ops (Mem I (a :: p :: q :: r :: s :: t :: L)) N (Array.replicate N false) k E I (a :: p :: q :: r :: s :: t :: (A ++ L))) :
  RunS P f n I₀ Q (.code (.region id ops true) :: k) E I (a :: p :: q :: r :: s :: t :: (A ++ L)) := Iw I (a :: p :: q :: r :: s :: t :: L) N hN hm h
theorem Aa2 (N : Nat) (hN : ops.size = N) (hm : P.follows .mixedOrders = true) (h : Cn P f n I₀ Q ops (Mem I (p :: q :: r :: s :: R)) N (Array.replicate N false) k E I (p :: q :: r :: s :: a :: b :: R)) :
  RunS P f n I₀ Q (.code (.region id ops true) :: k) E I (p :: q :: r :: s :: a :: b :: R) := Iw I (p :: q :: r :: s :: R) N hN hm h
theorem Z6 (N : Nat) (hN : ops.size = N) (hm : P.follows .mixedOrders = true) (h : Cn P f n I₀ Q ops (Mem I (p :: q :: r :: s :: L)) N (Array.replicate N false) k E I (p :: q :: r :: s :: a :: b :: c :: (A ++ L))) :
  RunS P f n I₀ Q (.code (.region id ops true) :: k) E I (p :: q :: r :: s :: a :: b :: c :: (A ++ L)) := Iw I (p :: q :: r :: s :: L) N hN hm h
end
structure V2 (P : Program) (kf : FuncId) (cap : List Value) (X : Type) (own : X → Bc) (R : X → List Am → Heap → Prop) : Prop where
 tell : ∀ x seen s I L, R x seen I → s.length ≤ Ap → seen.length < 4294967296 → Fun P kf (.string (str s) :: cap) I (own x ++ L) (fun v I' L' => v = .tuple #[] ∧ ∃ y, R y (seen ++ [s]) I' ∧ L' = own y ++ L)
 mono : ∀ x seen I I', HLe I I' → R x seen I → R x seen I'
structure GX (X : Type) where
 i : Nat
 x : X
 J : Heap
theorem R7 {kf : FuncId} {cap : List Value} {X : Type} {own : X → Bc} {R : X → List Am → Heap → Prop} {c0 : Code} {m0' : Nat} {rs0 : List ResultVar} [hfi : Bw Tryz.prog kf c0 m0' rs0] (T : V2 Tryz.prog kf cap X own R) :
  ∀ (n : Nat) {I : Heap} {t : Tree} {cs : List Value} (_ : SizeOf.sizeOf t < n) (_ : Rep I t cs) (x : X) (seen : List Am) (_ : seen.length + t.size ≤ 4294967296) (_ : R x seen I) (L : Bc),
  Fun Tryz.prog 34 [.agg cs.toArray, .func (.func kf) #[] cap.toArray] I (own x ++ L) (TP own R (seen ++ t.atomL) L) := by
 intro n
 induction n with
 | zero => intro I t cs h; omega
 | succ n ihn =>
  intro I t cs hlt h x seen hsl hx L; obtain ⟨oa, c, oaf, cf, rfl, hf⟩ := h.at'
  have ha := hf.alen
  have hp := hf.len
  unfold Ap at hp
  refine Aj (by simp) ?_; refine Se rfl ?_; refine Cc rfl rfl .free rfl ?_; intro b2; refine Aa (Ab (Se rfl ?_)); refine Aw rfl .free rfl ?_; refine Ca rfl (B7 hf.rep _) ?_; rintro _ _ _ _ ⟨rfl, rfl, rfl⟩; refine Aa ?_; refine Av rfl ?_ ?_
  ·intro c0
   try simp only [nb] at c0
   have hps : t.parts = [] := by simpa using c0
   refine Ah rfl (Om rfl (Oh rfl ?_)); refine Bg rfl .free rfl ?_; refine Cz (fun w h => h.u1) ?_; refine Ss rfl rfl .free rfl (T.tell x seen t.atom _ _ hx ha (by have := t.size_one; omega)) ?_; rintro _ J _ e1 ⟨rfl, x, hx, rfl⟩; refine Cz (fun w h => h.w1) ?_; obtain ⟨s0, hs0, hx⟩ : ∃ s0, s0 ++ Du t.parts = t.atomL ∧ R x (seen ++ s0) J := ⟨[t.atom], by rw [hps, O6 t hps]; rfl, hx⟩
   have hf := hf.mono e1
   have hle := e1
   refine Aa (Ab ?_)
   have hsz : s0.length + (Du t.parts).length = t.size := by rw [← t.atomL_len, ← hs0, List.length_append]
   refine Ah rfl (Oh rfl ?_); refine Bg rfl .free rfl ?_; refine On rfl (Om rfl (Aa (Ai ?_)))
   refine Ct (X := GX X) (fun y => t.parts.length - y.i) (fun y => [(1, .func (.func kf) #[] cap.toArray), (13, .slice oa t.parts.length c), (14, .int .i64 (t.parts.length : Nat)), (15, .int .i64 (y.i : Nat))]) (fun y => y.J) (fun y => (b2, .cells [.string (str t.atom), .slice oa t.parts.length c].toArray 35 (0, 0)) :: (own y.x ++ L)) (fun y => y.i ≤ t.parts.length ∧ HLe I y.J ∧ R y.x (seen ++ s0 ++ Du (t.parts.take y.i)) y.J) ⟨0, x, _⟩ ⟨Nat.zero_le _, hle, by simpa [Du] using hx⟩ ⟨rfl, rfl, rfl, rfl, trivial⟩ (by intro _ h; exact h) ?_; rintro ⟨i, x1, J1⟩ ⟨hi, hle1, hx1⟩ ih
   simp only at hi hle1 hx1 ih ⊢
   have hf1 := h.mono hle1
   refine Se rfl (Oc rfl rfl rfl (Aa (Ab ?_))); refine Av rfl ?_ ?_
   ·intro c1
    try simp only [nb] at c1
    have hi1 : i < t.parts.length := by omega
    have hall := Kh t.parts i hi1
    have hle3 : (Du (t.parts.take i)).length + (t.pt i).size ≤ (Du t.parts).length := by
     rw [Tree.pt_at hi1]
     have h1 := Gi (t.parts.take i) (t.parts.drop i)
     rw [List.take_append_drop, List.drop_eq_getElem_cons hi1] at h1
     simp only [D6] at h1
     rw [Gq, Gq]; omega
    obtain ⟨oa2, c2, oaf2, cf2, he2, hf2⟩ := hf1.at'
    simp only [List.cons.injEq, Value.slice.injEq, and_true, true_and] at he2
    obtain ⟨rfl, rfl⟩ := he2; refine Af (Ab (Ai (Se rfl ?_)))
    first | refine Bi rfl rfl _ rfl .free rfl ?_ | refine Bj rfl rfl _ rfl .free rfl ?_
    refine Em rfl .free rfl ?_; refine At .free rfl ?_; intro b5; refine Bp rfl rfl rfl rfl .free ?_; refine Aa (Ah rfl ?_); refine Aw rfl .free rfl ?_; refine Om rfl ?_; refine Cz (fun w h => h.u2) ?_; refine Ca rfl (ihn (t := t.pt i) (by have := t.pt_lt i hi1; omega) (hf2.rp i hi1) x1 _ (by simp only [List.length_append]; omega) hx1 _) ?_; rintro _ J2 _ e2 ⟨rfl, x2, hx2, rfl⟩; refine Cz (fun w h => h.w1.drop.w1) ?_; refine Aa (Ak (Ah rfl ?_)); refine Or rfl rfl rfl ?_; refine Om rfl (Aa ?_)
    refine Dr (E' := [(1, .func (.func kf) #[] cap.toArray), (13, .slice oa t.parts.length c), (14, .int .i64 (t.parts.length : Nat)), (15, .int .i64 ((i + 1 : Nat)))]) ⟨rfl, rfl, rfl, rfl, trivial⟩ (ih ⟨i + 1, x2, J2⟩ ⟨by simp only; omega, hle1.trans e2, by simp only; rw [hall, ← List.append_assoc, ← Tree.pt_at hi1]; exact hx2⟩ (by simp only; omega))
   intro c1
   try simp only [nb] at c1
   refine Bq rfl ?_; refine Jg .nil ?_
   have hi0 : i = t.parts.length := by omega
   subst hi0; rw [List.take_length, List.append_assoc, hs0] at hx1
   exact ⟨J1, _, hle1, fun w h => h.drop, rfl, x1, hx1, rfl⟩
  intro c0
  try simp only [nb] at c0
  have hne : t.parts ≠ [] := by simpa using c0
  obtain ⟨s0, hs0, hx⟩ : ∃ s0, s0 ++ Du t.parts = t.atomL ∧ R x (seen ++ s0) I := ⟨[], by rw [Qu t hne]; rfl, by rw [List.append_nil]; exact hx⟩
  have hle : HLe I I := .refl _
  refine Af (Ab ?_)
  have hsz : s0.length + (Du t.parts).length = t.size := by rw [← t.atomL_len, ← hs0, List.length_append]
  refine Ah rfl (Oh rfl ?_); refine Bg rfl .free rfl ?_; refine On rfl (Om rfl (Aa (Ai ?_)))
  refine Ct (X := GX X) (fun y => t.parts.length - y.i) (fun y => [(1, .func (.func kf) #[] cap.toArray), (13, .slice oa t.parts.length c), (14, .int .i64 (t.parts.length : Nat)), (15, .int .i64 (y.i : Nat))]) (fun y => y.J) (fun y => (b2, .cells [.string (str t.atom), .slice oa t.parts.length c].toArray 35 (0, 0)) :: (own y.x ++ L)) (fun y => y.i ≤ t.parts.length ∧ HLe I y.J ∧ R y.x (seen ++ s0 ++ Du (t.parts.take y.i)) y.J) ⟨0, x, _⟩ ⟨Nat.zero_le _, hle, by simpa [Du] using hx⟩ ⟨rfl, rfl, rfl, rfl, trivial⟩ (by intro _ h; exact h) ?_; rintro ⟨i, x1, J1⟩ ⟨hi, hle1, hx1⟩ ih
  simp only at hi hle1 hx1 ih ⊢
  have hf1 := h.mono hle1
  refine Se rfl (Oc rfl rfl rfl (Aa (Ab ?_))); refine Av rfl ?_ ?_
  ·intro c1
   try simp only [nb] at c1
   have hi1 : i < t.parts.length := by omega
   have hall := Kh t.parts i hi1
   have hle3 : (Du (t.parts.take i)).length + (t.pt i).size ≤ (Du t.parts).length := by
    rw [Tree.pt_at hi1]
    have h1 := Gi (t.parts.take i) (t.parts.drop i)
    rw [List.take_append_drop, List.drop_eq_getElem_cons hi1] at h1
    simp only [D6] at h1
    rw [Gq, Gq]; omega
   obtain ⟨oa2, c2, oaf2, cf2, he2, hf2⟩ := hf1.at'
   simp only [List.cons.injEq, Value.slice.injEq, and_true, true_and] at he2
   obtain ⟨rfl, rfl⟩ := he2; refine Af (Ab (Ai (Se rfl ?_)))
   first | refine Bi rfl rfl _ rfl .free rfl ?_ | refine Bj rfl rfl _ rfl .free rfl ?_
   refine Em rfl .free rfl ?_; refine At .free rfl ?_; intro b5; refine Bp rfl rfl rfl rfl .free ?_; refine Aa (Ah rfl ?_); refine Aw rfl .free rfl ?_; refine Om rfl ?_; refine Cz (fun w h => h.u2) ?_; refine Ca rfl (ihn (t := t.pt i) (by have := t.pt_lt i hi1; omega) (hf2.rp i hi1) x1 _ (by simp only [List.length_append]; omega) hx1 _) ?_; rintro _ J2 _ e2 ⟨rfl, x2, hx2, rfl⟩; refine Cz (fun w h => h.w1.drop.w1) ?_; refine Aa (Ak (Ah rfl ?_)); refine Or rfl rfl rfl ?_; refine Om rfl (Aa ?_)
   refine Dr (E' := [(1, .func (.func kf) #[] cap.toArray), (13, .slice oa t.parts.length c), (14, .int .i64 (t.parts.length : Nat)), (15, .int .i64 ((i + 1 : Nat)))]) ⟨rfl, rfl, rfl, rfl, trivial⟩ (ih ⟨i + 1, x2, J2⟩ ⟨by simp only; omega, hle1.trans e2, by simp only; rw [hall, ← List.append_assoc, ← Tree.pt_at hi1]; exact hx2⟩ (by simp only; omega))
  intro c1
  try simp only [nb] at c1
  refine Bq rfl ?_; refine Jg .nil ?_
  have hi0 : i = t.parts.length := by omega
  subst hi0; rw [List.take_length, List.append_assoc, hs0] at hx1
  exact ⟨J1, _, hle1, fun w h => h.drop, rfl, x1, hx1, rfl⟩
def FB.met (bm bq bo : Nat) (x : FB) : Bc := (bm, .cells [.map (some bq)].toArray 55 (0, 0)) :: (bq, Fv x.l) :: (bo, .cells [Bd x.l.length x.c x.B].toArray 65 (0, 0)) :: A2 9 (x.l.map sv) x.B
def FB.ats (x : FB) (seen : List Am) (I : Heap) : Prop := x.l = Cx [] seen ∧ Cy 1 x.l.length x.c (x.l.map sv) x.B ∧ ∀ s ∈ x.l, s.length ≤ Ap
def nz (b bq g n : Nat) : Nat × Obj := (b, .cells [.map (some bq), .int .i64 (g : Nat), .int .i64 (n : Nat)].toArray 57 (0, 0))
structure NZ where
 ns : S8
 B : H3
 c : Nat
 xs : List Value
structure NZ.ok (I : Heap) (x : NZ) : Prop where
 buf : Cy 3 x.ns.length x.c x.xs x.B
 rep : BindL I x.ns x.xs
theorem NZ.ok.mono {I I' : Heap} {x : NZ} (hle : HLe I I') (h : x.ok I) : x.ok I' := ⟨h.buf, h.rep.mono hle⟩
def NZ.own (b bq : Nat) (tk : List Am) (g n bn : Nat) (x : NZ) (L : Bc) : Bc :=
 nz b bq g n :: (bq, Fv tk) :: (bn, .cells [Bd x.ns.length x.c x.B].toArray 90 (0, 0)) :: (A2 121 x.xs x.B ++ L)
def NP (b bq : Nat) (tk : List Am) (g bn : Nat) (x : NZ) (p : MK) (L : Bc) : C3 := fun v I' L' => ∃ cs y, v = .agg (List.toArray cs) ∧ Rep I' p.e.tree cs ∧ NZ.ok I' y ∧ y.ns = x.ns ++ p.ns ∧ L' = y.own b bq tk (g + p.g) p.n bn L
theorem Ll {I : Heap} (ht : Tab I) (tk : List Am) (b bq g n : Nat) (hn : n + tk.length ≤ 1000 + Eb 121 tk n) (h3 : n ≤ 1000) (hg : g ≤ 1000) (L : Bc) :
  Fun Tryz.prog 113 [.pointer (some ⟨b, 0, none⟩)] I (nz b bq g n :: (bq, Fv tk) :: L) (fun v I' L' => v = .string (str (nm 121 (fr 121 tk n))) ∧ I = I' ∧ L' = nz b bq (g + 1) (fr 121 tk n + 1) :: (bq, Fv tk) :: L) := by
 obtain ⟨f1, f2, f3⟩ := Dq 121 tk n
 have f4 := Bf 121 tk (fr 121 tk n)
 refine Aj (by simp) ?_; refine Se rfl (Oa rfl (Aa (Ai ?_))); refine Ct (X := Nat) (fun m => fr 121 tk n + 1 - m) (fun m => [(0, .pointer (some ⟨b, 0, none⟩))]) (fun _ => I) (fun m => nz b bq g m :: (bq, Fv tk) :: L) (fun m => n ≤ m ∧ m ≤ fr 121 tk n ∧ ∀ j, n ≤ j → j < m → nm 121 j ∈ tk) n ⟨Nat.le_refl _, f2, fun j h1 h2 => absurd h2 (by omega)⟩ ⟨rfl, trivial⟩ (fun _ h => h) ?_; rintro m ⟨hm1, hm2, hm3⟩ ih
 unfold nz
 have hdl := Ou (n := m) (by omega)
 refine Ai (Se rfl (Om rfl ?_)); refine Bl rfl .free rfl ?_
 first | refine Oh rfl ?_ | refine Oj rfl ?_
 refine Md rfl .free rfl ?_; refine Ca rfl (N9 ht (m : Nat) (by omega) (by omega) _) ?_; rintro _ _ _ _ ⟨rfl, rfl, rfl⟩; rw [Ys]; refine Ok rfl rfl ?_; refine Oa rfl (Aa (Se rfl (Om rfl ?_))); refine Bl rfl .free rfl ?_
 first | refine Oh rfl ?_ | refine Oj rfl ?_
 refine Md rfl .free rfl ?_; refine Or rfl rfl rfl ?_; refine Bl rfl .free rfl ?_
 first | refine Oh rfl ?_ | refine Oj rfl ?_
 refine Bp rfl rfl rfl rfl .free ?_; refine Aa (Se rfl (Om rfl ?_)); refine Bl rfl .free rfl ?_
 first | refine Oh rfl ?_ | refine Oj rfl ?_
 refine Hf rfl (Dv (cs := [.map (some bq), .int .i64 (g : Nat), .int .i64 ((m : Int) + 1)]) m0 (by rfl) rfl) .free rfl ?_; refine Om rfl ?_; refine Za (s := nm 121 m) (m := tk) rfl rfl ⟨_, rfl, rfl⟩ (fun w h => (h.2.1 _ m1).1) .free rfl ?_; refine Dy rfl .free rfl ?_; refine Aa ?_; refine Av rfl ?_ ?_
 ·intro c0
  try simp only [nb] at c0
  refine Se rfl (Om rfl ?_); refine Bl rfl .free rfl ?_
  first | refine Oh rfl ?_ | refine Oj rfl ?_
  refine Md rfl .free rfl ?_; refine Or rfl rfl rfl ?_; refine Bl rfl .free rfl ?_
  first | refine Oh rfl ?_ | refine Oj rfl ?_
  refine Bp rfl rfl rfl rfl .free ?_; refine Aa (Se rfl (Om rfl (Oa rfl (Aa (Ag (.tmp rfl .nil) ?_)))))
  have hfm : fr 121 tk n = m := Ov hm3 hm1 c0
  exact ⟨I, _, .refl _, fun _ h => h, by rw [hfm]; rfl, rfl, by rw [hfm]; rfl⟩
 intro c0
 try simp only [nb] at c0
 refine Af (Ak ?_)
 have hne : m ≠ fr 121 tk n := fun e => f1 (e ▸ c0)
 refine Dr (E' := [(0, .pointer (some ⟨b, 0, none⟩))]) ⟨rfl, trivial⟩ (ih (m + 1) ⟨by omega, by omega, fun j h1 h2 => ?_⟩ (by omega))
 by_cases hj : j = m
 ·subst hj; exact c0
 ·exact hm3 j h1 (by omega)
def Kd (N : Nat) : Prop := ∀ {I : Heap} (_ : Tab I) {e : Ex} {cs : List Value} (_ : SizeOf.sizeOf e < N) (_ : Rep I e.tree cs) (_ : e.ok = true) (tk : List Am) (b bq bn g n : Nat) (_ : n + e.size + tk.length ≤ 900 + Eb 121 tk n) (_ : g + e.size ≤ 1000) (x : NZ) (_ : x.ok I) (_ : x.ns.length + e.size ≤ 100000) (L : Bc),
 Fun Tryz.prog 64 [.pointer (some ⟨b, 0, none⟩), .agg cs.toArray, .pointer (some ⟨bn, 0, none⟩)] I (x.own b bq tk g n bn L) (NP b bq tk g bn x (e.mk tk n) L)
theorem Mc {N : Nat} (ih : Kd N) {I : Heap} (ht : Tab I) {e : Ex} {cs : List Value} (hlt : SizeOf.sizeOf e < N) (h : Rep I e.tree cs) (hok : e.ok = true) (tk : List Am) (b bq bn g n : Nat) (hn : n + e.size + tk.length ≤ 900 + Eb 121 tk n) (hg : g + e.size ≤ 1000) (x : NZ) (hx : x.ok I) (hxl : x.ns.length + e.size ≤ 100000) (L : Bc) :
  Fun Tryz.prog 93 [.pointer (some ⟨b, 0, none⟩), .agg cs.toArray, .pointer (some ⟨bn, 0, none⟩)] I (x.own b bq tk g n bn L) (NP b bq tk g bn x ((e.mk tk n).pt tk) L) := by
 obtain ⟨oa, c, oaf, cf, rfl, hf⟩ := h.at'
 have hmo := Ex.mk_ok (tk := tk) (n := n) hok hn
 have hmh := e.mk_hits tk n
 have hmg := e.mk_g tk n
 have hml := e.mk_len tk n
 have hh0 := Bf 121 tk n
 have hh1 := Bf 121 tk (e.mk tk n).n
 generalize hp : e.mk tk n = p at *
 unfold NZ.own
 refine Aj (by simp) ?_; refine Se rfl ?_; refine Cc rfl rfl .free rfl ?_; intro b4; refine At .free rfl ?_; intro b6; refine Aa (Se rfl (Om rfl ?_)); refine Aw rfl .free rfl ?_; refine Om rfl ?_; refine Cz (fun w h => Mem.kv2 h) ?_; refine Ca rfl (ih ht hlt hf.rep hok tk b bq bn g n hn hg x hx hxl _) ?_; rw [hp]; rintro _ J1 _ e1 ⟨cs1, y, rfl, hr, hy, hyn, rfl⟩; obtain ⟨o1, k1, _, rfl, -⟩ := hr.open
 have hyl : y.ns.length = x.ns.length + p.ns.length := by rw [hyn]; simp
 obtain ⟨a1, k2, hu1⟩ := Aat hy.buf
 unfold NZ.own
 refine Cz (fun w h => Mem.vk2 h) ?_; rw [hu1]; refine At .free rfl ?_; intro b7; refine Bp rfl rfl rfl rfl .free ?_; refine Aa (Ab (Se rfl ?_)); refine Aw rfl .free rfl ?_; refine Ca rfl (B7 hr _) ?_; rintro _ _ _ _ ⟨rfl, rfl, rfl⟩; refine Aa ?_; refine Av rfl ?_ ?_
 ·intro c0
  try simp only [nb] at c0
  have hb : p.e.bare = true := by rw [Ex.bare_parts]; simpa using c0
  refine Se rfl ?_; refine Aw rfl .free rfl ?_; refine Bp rfl rfl rfl rfl .free ?_; refine Aa ?_; refine Ag (.c rfl .nil) ?_; refine ⟨J1, _, e1, fun w h => Mem.sub (L' := nz _ _ _ _ :: _ :: _ :: (A2 121 y.xs y.B ++ L)) (by repeat (first | exact List.Sublist.refl _ | apply List.Sublist.cons_cons | apply List.Sublist.cons)) h, _, y, rfl, by unfold MK.pt; rw [if_pos hb]; exact hr, hy, by unfold MK.pt; rw [if_pos hb]; exact hyn, ?_⟩
  unfold MK.pt NZ.own; rw [if_pos hb, hu1]
 intro c0
 try simp only [nb] at c0
 have hb : p.e.bare = false := by rw [Ex.bare_parts]; simpa using c0
 have ht := ht.mono e1
 refine Af (Se rfl (Om rfl ?_)); refine Cz (fun w h => Mem.nq3 h) ?_; refine Ca rfl (Ll ht tk b bq (g + p.g) p.n (by omega) (by omega) (by omega) _) ?_; rintro _ _ _ _ ⟨rfl, rfl, rfl⟩
 have hfr := Dq 121 tk p.n
 have hfr2 := Bf 121 tk (fr 121 tk p.n)
 have hnl : (nm 121 (fr 121 tk p.n)).length ≤ Ap := Ex.name_len (Jo (by decide) (by omega))
 generalize hn1e : nm 121 (fr 121 tk p.n) = n1 at hnl ⊢
 have hpt : p.pt tk = ⟨.name n1, p.ns ++ [(n1, p.e)], fr 121 tk p.n + 1, p.g + 1⟩ := by unfold MK.pt; rw [if_neg (by rw [hb]; simp), hn1e]
 rw [hpt]; refine Oa rfl (Aa (Ab ?_)); refine Abm 11 rfl rfl ?_; refine Da 0 rfl (Ac rfl) ?_; refine Da 1 rfl (Ac rfl) ?_; refine Da 2 rfl (Ch rfl) ?_; refine Dt 3 [10] rfl (Nn rfl) ?_; refine Da 4 rfl (Ac rfl) ?_; refine Dt 5 [10] rfl (Cd rfl) ?_; refine Da 6 rfl (G7 rfl rfl rfl) ?_; refine C6 7 rfl (by kernel_rfl) rfl rfl rfl (by rfl) (by rfl) (by rfl) (by decide) (by decide) (by rfl) .free rfl (.inr Al) ?_; intro b25
 refine B8 8 (B := y.B) (xs := y.xs) (ys := [.string (str n1), .string (str p.e.tree.atom), .slice o1 p.e.tree.parts.length k1]) (m := y.ns.length) (c := y.c) rfl (by kernel_rfl) rfl (by intro kk; simp) (by rfl) (by rw [hu1]; rfl) rfl hy.buf (fun _ h => h.uu7) (by rfl) (fun a ha => by cases ha; exact B0 (.head _) (by rfl)) (by simp) (by rfl) (by decide) (by omega) (by decide) .free rfl (fun _ => .inr Al) ?_; intro B2 c3 hB2; obtain ⟨bq2, sq, rfl⟩ : ∃ bq sq, B2 = some (bq, sq) := by
  cases B2 with
  | none => exact absurd hB2.1 (by simp)
  | some z => exact ⟨z.1, z.2, rfl⟩
 simp only [A2, List.cons_append, List.nil_append]
 refine Da 9 rfl (Ch rfl) ?_; refine Dx 10 rfl rfl rfl rfl ?_ (hu := Abw); refine Au (by kernel_rfl) ?_; refine Se rfl (Om rfl ?_); refine Ca rfl (I0 n1 hnl _ _) ?_; rintro _ _ _ _ ⟨rfl, rfl, rfl⟩; refine Bp rfl rfl rfl rfl .free ?_; refine Aa ?_; refine Ag (.c rfl .nil) ?_
 refine ⟨J1, _, e1, fun w h => Mem.w3 (Mem.sub (L' := (bq2, _) :: nz _ _ _ _ :: _ :: (bn, _) :: L) (by repeat (first | exact List.Sublist.refl _ | apply List.Sublist.cons_cons | apply List.Sublist.cons)) h), _, ⟨y.ns ++ [(n1, p.e)], some (bq2, sq), c3, y.xs ++ [.string (str n1), .string (str p.e.tree.atom), .slice o1 p.e.tree.parts.length k1]⟩, rfl, .ofAtom hnl, ⟨by simpa using hB2, hy.rep.append (.cons hnl hr .nil)⟩, ?_, ?_⟩
 ·simp only [hyn, List.append_assoc]
 ·simp only [NZ.own, nz, A2, Bd, List.append_assoc, List.length_append, List.length_cons, List.length_nil, List.cons_append, List.nil_append, Nat.add_assoc]
end Go.Proofs.YtbohngcdgmjfaaaGreatDoor
