/- A type leans only on the names that stand free; what is put for a name of its type keeps the type. No conditions. -/
import Derived.Test.YtmfagaajiakgoaaGreatDoorG11
import Derived.Shelf.Strconv.Atoi
import Derived.Test.YtmfagaajiakgoaaGreatDoorProg
import Derived.Laws.Pointers

namespace Go.Proofs.YtmfagaajiakgoaaGreatDoor
set_option maxRecDepth 100000
set_option linter.unusedVariables false
set_option linter.unusedSimpArgs false

theorem Rq {l r : List As} {y : As} : ∀ {n : Nat}, n ≤ l.length → Gn (l ++ r) y n = Gn l y n
 | 0, _ => rfl
 | n + 1, h => by
  simp only [Gn]
  rw [show (l ++ r).getD n [] = l.getD n [] by simp [List.getElem?_append_left (show n < l.length by omega)], Rq (by omega)]
theorem Kn (l : List As) (x y : As) : B9 (l ++ [x]) y = if x = y then some l.length else B9 l y := by
 unfold B9
 rw [show (l ++ [x]).length = l.length + 1 by simp]
 simp only [Gn]
 rw [show (l ++ [x]).getD l.length [] = x by simp, Rq (Nat.le_refl _)]
theorem H6 {l : List As} {m : List Ty} (h : l.length = m.length) (x y : As) (s : Ty) : Fg (l ++ [x]) (m ++ [s]) y = if x = y then some s else Fg l m y := by
 unfold Fg
 rw [Kn]
 by_cases hx : x = y
 ·rw [if_pos hx, if_pos hx]; simp [h]
 ·rw [if_neg hx, if_neg hx]
  cases hi : B9 l y with
  | none => rfl
  | some i =>
   have h1 := (Ju (show Gn l y l.length = some i from hi)).1
   simp [List.getElem?_append_left (show i < m.length by omega)]
theorem Je {l : List As} {m : List Ty} (h : l.length = m.length) (f x y : As) (s t : Ty) : Fg (l ++ [f, x]) (m ++ [s, t]) y = if x = y then some t else if f = y then some s else Fg l m y := by
 have h1 := H6 (l := l ++ [f]) (m := m ++ [s]) (by simp [h]) x y t
 rw [H6 h, List.append_assoc, List.append_assoc] at h1
 exact h1
theorem Ex.chk_congr : ∀ {e : Ex} {l l' : List As} {m m' : List Ty}, l.length = m.length → l'.length = m'.length → (∀ x ∈ e.occ [], Fg l m x = Fg l' m' x) → e.chk l m = e.chk l' m'
 | .num _, l, l', m, m', _, _, _ => rfl
 | .name s, l, l', m, m', _, _, h => by
  have := h s (by simp [Ex.occ])
  simp only [Ex.chk, this]
 | .bin o a b, l, l', m, m', h1, h2, h => by
  simp only [Ex.occ, List.mem_append] at h
  simp only [Ex.chk, Ex.chk_congr h1 h2 fun x hx => h x (.inl hx), Ex.chk_congr h1 h2 fun x hx => h x (.inr hx)]
 | .ite a b c, l, l', m, m', h1, h2, h => by
  simp only [Ex.occ, List.mem_append] at h
  simp only [Ex.chk, Ex.chk_congr h1 h2 fun x hx => h x (.inl (.inl hx)), Ex.chk_congr h1 h2 fun x hx => h x (.inl (.inr hx)), Ex.chk_congr h1 h2 fun x hx => h x (.inr hx)]
 | .lt y a b, l, l', m, m', h1, h2, h => by
  simp only [Ex.occ, List.mem_append, List.nil_append] at h
  simp only [Ex.chk, Ex.chk_congr h1 h2 fun x hx => h x (.inl hx)]
  cases a.chk l' m' with
  | error x => rfl
  | ok s =>
   refine Ex.chk_congr (by simp [h1]) (by simp [h2]) fun x hx => ?_
   rw [H6 h1, H6 h2]
   by_cases hy : y = x
   ·rw [if_pos hy, if_pos hy]
   ·rw [if_neg hy, if_neg hy]
    exact h x (.inr (Ex.occ_mem.2 ⟨hx, by simp only [List.mem_singleton]; exact fun e => hy e.symm⟩))
 | .fn f y s t b, l, l', m, m', h1, h2, h => by
  simp only [Ex.occ, List.nil_append] at h
  simp only [Ex.chk]
  rw [Ex.chk_congr (e := b) (l := l ++ [f, y]) (l' := l' ++ [f, y]) (m := m ++ [.fn s t, s]) (m' := m' ++ [.fn s t, s]) (by simp [h1]) (by simp [h2]) fun x hx => ?_]; rw [Je h1, Je h2]
  by_cases hy : y = x
  ·rw [if_pos hy, if_pos hy]
  ·rw [if_neg hy, if_neg hy]
   by_cases hf : f = x
   ·rw [if_pos hf, if_pos hf]
   ·rw [if_neg hf, if_neg hf]; refine h x (Ex.occ_mem.2 ⟨hx, ?_⟩)
    simp only [List.mem_cons, List.not_mem_nil, or_false]
    rintro (e | e)
    ·exact hf e.symm
    ·exact hy e.symm
 | .un o a, l, l', m, m', h1, h2, h => by
  simp only [Ex.occ] at h
  simp only [Ex.chk, Ex.chk_congr h1 h2 h]
theorem Ex.chk_closed {e : Ex} {t : Ty} (h : e.chk [] [] = .ok t) {l : List As} {m : List Ty} (hl : l.length = m.length) : e.chk l m = .ok t := by
 rw [← h]; refine (Ex.chk_congr (l := []) (m := []) rfl hl fun x hx => ?_).symm
 have := Ex.chk_occ h x hx
 cases this
theorem Ex.put_chk : ∀ {e : Ex} {n : As} {v : Ex} {k t : Ty} {l : List As} {m : List Ty}, l.length = m.length → v.chk [] [] = .ok k → Fg l m n = some k → e.chk l m = .ok t → (e.put n v).chk l m = .ok t
 | .num _, n, v, k, t, l, m, _, _, _, h => h
 | .name s, n, v, k, t, l, m, hl, hv, hn, h => by
  simp only [Ex.put]
  split
  ·rename_i e; subst e
   simp only [Ex.chk, hn] at h
   cases h
   exact Ex.chk_closed hv hl
  ·exact h
 | .bin o a b, n, v, k, t, l, m, hl, hv, hn, h => by
  simp only [Ex.chk] at h
  split at h
  ·cases h
  ·rename_i s h1
   split at h
   ·cases h
   ·rename_i u h2
    simp only [Ex.put, Ex.chk, Ex.put_chk hl hv hn h1, Ex.put_chk hl hv hn h2]
    split at h
    ·rename_i w h3; cases h; simp only [h3]
    ·cases h
 | .ite a b c, n, v, k, t, l, m, hl, hv, hn, h => by
  simp only [Ex.chk] at h
  split at h
  ·cases h
  ·rename_i s h1
   split at h
   ·cases h
   ·rename_i u h2
    split at h
    ·cases h
    ·rename_i w h3
     simp only [Ex.put, Ex.chk, Ex.put_chk hl hv hn h1, Ex.put_chk hl hv hn h2, Ex.put_chk hl hv hn h3]
     split at h
     ·rename_i h4; cases h; rw [if_pos h4]
     ·cases h
 | .lt y a b, n, v, k, t, l, m, hl, hv, hn, h => by
  simp only [Ex.chk] at h
  split at h
  ·cases h
  ·rename_i s h1
   simp only [Ex.put, Ex.chk, Ex.put_chk hl hv hn h1]
   by_cases hy : y = n
   ·rw [if_pos hy]; exact h
   ·rw [if_neg hy]
    exact Ex.put_chk (by simp [hl]) hv (by rw [H6 hl, if_neg hy]; exact hn) h
 | .fn f y s u b, n, v, k, t, l, m, hl, hv, hn, h => by
  simp only [Ex.chk] at h
  split at h
  ·rename_i hz
   split at h
   ·cases h
   ·rename_i w h1
    simp only [Ex.put, Ex.chk, hz, if_true]
    have h2 : (if f = n ∨ y = n then b else b.put n v).chk (l ++ [f, y]) (m ++ [.fn s u, s]) = .ok w := by
     by_cases hy : f = n ∨ y = n
     ·rw [if_pos hy]; exact h1
     ·rw [if_neg hy]; refine Ex.put_chk (by simp [hl]) hv ?_ h1; rw [Je hl, if_neg fun e => hy (.inr e), if_neg fun e => hy (.inl e)]; exact hn
    rw [h2]
    simp only
    split at h
    ·rename_i h3; cases h; rw [if_pos h3]
    ·cases h
  ·cases h
 | .un o a, n, v, k, t, l, m, hl, hv, hn, h => by
  simp only [Ex.chk] at h
  split at h
  ·cases h
  ·rename_i s h1
   simp only [Ex.put, Ex.chk, Ex.put_chk hl hv hn h1]
   split at h
   ·rename_i w h3; cases h; simp only [h3]
   ·cases h
theorem Mb (l : List As) (y : As) : ∀ (a : List As), B9 (l ++ a) y = match B9 a y with | some i => some (l.length + i) | none => B9 l y := by
 intro a
 induction a generalizing l with
 | nil => rw [List.append_nil]; rfl
 | cons x a ih =>
  have h1 := ih (l ++ [x])
  have h2 := ih [x]
  rw [List.append_assoc] at h1
  simp only [List.cons_append, List.nil_append] at h1 h2
  rw [h1, h2, Kn]
  have h3 := Kn [] x y
  simp only [List.nil_append, List.length_nil] at h3
  rw [h3]
  cases B9 a y with
  | some i => simp only [List.length_append, List.length_cons, List.length_nil]; congr 1; omega
  | none =>
   simp only
   by_cases e : x = y
   ·rw [if_pos e, if_pos e]; simp
   ·rw [if_neg e, if_neg e]; rfl
theorem Nn {l : List As} {y : As} {i : Nat} (h : B9 l y = some i) : i < l.length ∧ l.getD i [] = y := Ju h
theorem Gp {l : List As} {y : As} : B9 l y = none ↔ y ∉ l := by
 induction l with
 | nil => simp [B9, Gn]
 | cons x l ih =>
  have h := Mb [x] y l
  simp only [List.cons_append, List.nil_append] at h
  rw [h]
  have h3 := Kn [] x y
  simp only [List.nil_append, List.length_nil] at h3
  rw [h3]
  cases hl : B9 l y with
  | some i =>
   have := Kd hl
   simp [this]
  | none =>
   rw [hl] at ih
   have h4 : y ∉ l := ih.1 rfl
   by_cases e : x = y
   ·simp [e]
   ·rw [if_neg e]
    simp only [List.mem_cons, not_or]
    exact ⟨fun _ => ⟨fun e' => e e'.symm, h4⟩, fun _ => rfl⟩
theorem Sn {l : List As} (h : l.Nodup) {i : Nat} (hi : i < l.length) : B9 l (l.getD i []) = some i := by
 cases hx : B9 l (l.getD i []) with
 | none =>
  rw [Gp] at hx
  exact absurd (by rw [show l.getD i [] = l[i] by simp [hi]]; exact List.getElem_mem hi) hx
 | some j =>
  obtain ⟨h1, h2⟩ := Nn hx; rw [show l.getD j [] = l[j] by simp [h1], show l.getD i [] = l[i] by simp [hi]] at h2; rw [(List.getElem_inj h).1 h2]
def bnd (i : Nat) : As := 0 :: List.replicate i 0
theorem Zi {i j : Nat} (h : bnd i = bnd j) : i = j := by
 have := congrArg List.length h
 simpa [bnd] using this
theorem V2 (i : Nat) : Bn (bnd i) = false := by simp [bnd, Bn, Oy]
theorem T8 {s : As} (h : Bn s = true) (i : Nat) : bnd i ≠ s := fun e => by rw [← e, V2] at h; cases h
def Ex.db : Ex → List As → Ex
 | .num s, _ => .num s
 | .name s, a => .name (match B9 a s with | some i => bnd i | none => s)
 | .bin o a b, l => .bin o (a.db l) (b.db l)
 | .ite a b c, l => .ite (a.db l) (b.db l) (c.db l)
 | .lt x a b, l => .lt [] (a.db l) (b.db (l ++ [x]))
 | .fn g x s t b, l => .fn [] [] s t (b.db (l ++ [g, x]))
 | .un o a, l => .un o (a.db l)
def Ex.alk : Ex → Ex → List As → List As → Bool
 | .num s, .num t, _, _ => decide (s = t)
 | .name s, .name t, a, b => decide (B9 a s = B9 b t) && ((B9 a s).isSome || decide (s = t))
 | .bin o p q, .bin o' p' q', a, b => decide (o.txt = o'.txt) && p.alk p' a b && q.alk q' a b
 | .ite p q r, .ite p' q' r', a, b => p.alk p' a b && q.alk q' a b && r.alk r' a b
 | .lt x p q, .lt x' p' q', a, b => p.alk p' a b && q.alk q' (a ++ [x]) (b ++ [x'])
 | .fn g x s t q, .fn g' x' s' t' q', a, b => decide (s = s') && decide (t = t') && q.alk q' (a ++ [g, x]) (b ++ [g', x'])
 | .un o p, .un o' p', a, b => decide (o.txt = o'.txt) && p.alk p' a b
 | _, _, _, _ => false
def freshT (av t : List As) (n : Nat) : Prop := t.Nodup ∧ ∀ x ∈ t, x ∉ av ∧ ∃ k, k < n ∧ x = nm 120 k
theorem freshT.up {av t : List As} {n m : Nat} (h : freshT av t n) (hm : n ≤ m) : freshT av t m := ⟨h.1, fun x hx => by obtain ⟨h1, k, h2, h3⟩ := h.2 x hx; exact ⟨h1, k, by omega, h3⟩⟩
theorem freshT.add {av t : List As} {n k : Nat} (h : freshT av t n) (hk : n ≤ k) (ha : nm 120 k ∉ av) : freshT av (t ++ [nm 120 k]) (k + 1) := by
 refine ⟨?_, fun x hx => ?_⟩
 ·rw [List.nodup_append]; refine ⟨h.1, by simp, ?_⟩; intro x hx y hy e
  simp only [List.mem_singleton] at hy
  subst hy; subst e; obtain ⟨_, j, hj, e⟩ := h.2 _ hx
  have := Yp e
  omega
 ·rcases List.mem_append.1 hx with hx | hx
  ·obtain ⟨h1, j, h2, h3⟩ := h.2 x hx; exact ⟨h1, j, by omega, h3⟩
  ·simp only [List.mem_singleton] at hx; subst hx; exact ⟨ha, k, by omega, rfl⟩
theorem Ex.db_pl {av : List As} : ∀ {e : Ex} {f t : List As} {n : Nat}, f.length = t.length → freshT av t n → (∀ x ∈ e.occ f, x ∈ av) → (e.pl av f t n).1.db t = e.db f := by
 intro e
 induction e with
 | num s => intro f t n _ _ _; rfl
 | name s =>
  intro f t n hft hfr ho
  simp only [Ex.pl, Ex.db]
  cases hs : B9 f s with
  | none =>
   have h1 : s ∉ f := Gp.1 hs
   have h2 := ho s (by simp [Ex.occ, h1])
   have h3 : B9 t s = none := Gp.2 fun hm => (hfr.2 s hm).1 h2
   simp only [h3]
  | some i =>
   have h1 := (Nn hs).1
   simp only [Sn hfr.1 (show i < t.length by omega)]
 | bin o p q ih1 ih2 =>
  intro f t n hft hfr ho
  simp only [Ex.occ, List.mem_append] at ho
  simp only [Ex.pl, Ex.db, ih1 hft hfr fun x hx => ho x (.inl hx), ih2 hft (hfr.up (p.pl_hits av f t n).1) fun x hx => ho x (.inr hx)]
 | ite p q r ih1 ih2 ih3 =>
  intro f t n hft hfr ho
  simp only [Ex.occ, List.mem_append] at ho
  have h1 := (p.pl_hits av f t n).1
  have h2 := (q.pl_hits av f t (p.pl av f t n).2).1
  simp only [Ex.pl, Ex.db, ih1 hft hfr fun x hx => ho x (.inl (.inl hx)), ih2 hft (hfr.up h1) fun x hx => ho x (.inl (.inr hx)), ih3 hft (hfr.up (Nat.le_trans h1 h2)) fun x hx => ho x (.inr hx)]
 | lt x p q ih1 ih2 =>
  intro f t n hft hfr ho
  simp only [Ex.occ, List.mem_append] at ho
  obtain ⟨f1, f2, f3⟩ := I9 120 av n
  have h1 := (p.pl_hits av f t (fr 120 av n + 1)).1
  simp only [Ex.pl, Ex.db, ih1 hft (hfr.up (show n ≤ fr 120 av n + 1 by omega)) fun x hx => ho x (.inl hx),
   ih2 (f := f ++ [x]) (t := t ++ [nm 120 (fr 120 av n)]) (by simp [hft]) ((hfr.add f2 f1).up h1) fun x hx => ho x (.inr hx)]
 | fn g x s u q ih =>
  intro f t n hft hfr ho
  simp only [Ex.occ] at ho
  obtain ⟨f1, f2, f3⟩ := I9 120 av n; obtain ⟨g1, g2, g3⟩ := I9 120 av (fr 120 av n + 1)
  have hh := ((hfr.add f2 f1).add g2 g1)
  rw [List.append_assoc] at hh
  simp only [List.cons_append, List.nil_append] at hh
  simp only [Ex.pl, Ex.db, ih (f := f ++ [g, x]) (t := t ++ [nm 120 (fr 120 av n), nm 120 (fr 120 av (fr 120 av n + 1))]) (by simp [hft]) hh ho]
 | un o p ih =>
  intro f t n hft hfr ho
  simp only [Ex.occ] at ho
  simp only [Ex.pl, Ex.db, ih hft hfr ho]
theorem Ado (e : Ex) : e.plain.db [] = e.db [] := Ex.db_pl rfl ⟨by simp, by simp⟩ fun x hx => Ex.free_mem.2 hx
def Ex.fv : Ex → List As
 | .num _ => []
 | .name s => if Bn s = true then [s] else []
 | .bin _ a b => a.fv ++ b.fv
 | .ite a b c => a.fv ++ b.fv ++ c.fv
 | .lt _ a b => a.fv ++ b.fv
 | .fn _ _ _ _ b => b.fv
 | .un _ a => a.fv
theorem Ex.occ_db : ∀ {e : Ex} {a : List As}, e.ok = true → e.occ a = (e.db a).fv := by
 intro e
 induction e with
 | num s => intro a _; rfl
 | name s =>
  intro a h
  simp only [Ex.ok] at h
  simp only [Ex.occ, Ex.db, Ex.fv]
  cases hs : B9 a s with
  | none => simp only [if_pos h]; rw [if_neg (Gp.1 hs)]
  | some i => simp only [V2, Bool.false_eq_true, if_false]; rw [if_pos (Kd hs)]
 | bin o p q ih1 ih2 => intro a h; simp only [Ex.ok, Bool.and_eq_true] at h; simp only [Ex.occ, Ex.db, Ex.fv, ih1 h.1, ih2 h.2]
 | ite p q r ih1 ih2 ih3 => intro a h; simp only [Ex.ok, Bool.and_eq_true] at h; simp only [Ex.occ, Ex.db, Ex.fv, ih1 h.1.1, ih2 h.1.2, ih3 h.2]
 | lt x p q ih1 ih2 => intro a h; simp only [Ex.ok, Bool.and_eq_true] at h; simp only [Ex.occ, Ex.db, Ex.fv, ih1 h.1.2, ih2 h.2]
 | fn g x s u q ih => intro a h; simp only [Ex.ok, Bool.and_eq_true] at h; simp only [Ex.occ, Ex.db, Ex.fv, ih h.2]
 | un o p ih => intro a h; simp only [Ex.ok] at h; simp only [Ex.occ, Ex.db, Ex.fv, ih h]
def Ex.as (e e' : Ex) : Prop := e.db [] = e'.db []
theorem Ex.as.free {e e' : Ex} (h : e.as e') (ho : e.ok = true) (ho' : e'.ok = true) : e.free = e'.free ∧ e.occ [] = e'.occ [] := by
 have h1 : e.occ [] = e'.occ [] := by rw [Ex.occ_db ho, Ex.occ_db ho', show e.db [] = e'.db [] from h]
 exact ⟨by unfold Ex.free; rw [h1], h1⟩
theorem Ex.plain_as (e : Ex) : e.plain.as e := Ado e
theorem Ex.db_size : ∀ (e : Ex) (a : List As), (e.db a).size = e.size ∧ (e.db a).tree.depth = e.tree.depth := by
 intro e
 induction e with
 | num s => intro a; exact ⟨rfl, rfl⟩
 | name s => intro a; exact ⟨rfl, rfl⟩
 | bin o p q ih1 ih2 => intro a; obtain ⟨h1, h2⟩ := ih1 a; obtain ⟨h3, h4⟩ := ih2 a; simp only [Ex.db, Ex.size, Ex.tree, Tree.depth, Dr, List.isEmpty_cons, cond_false, h1, h2, h3, h4, and_self]
 | ite p q r ih1 ih2 ih3 => intro a; obtain ⟨h1, h2⟩ := ih1 a; obtain ⟨h3, h4⟩ := ih2 a; obtain ⟨h5, h6⟩ := ih3 a; simp only [Ex.db, Ex.size, Ex.tree, Tree.depth, Dr, List.isEmpty_cons, cond_false, h1, h2, h3, h4, h5, h6, and_self]
 | lt x p q ih1 ih2 => intro a; obtain ⟨h1, h2⟩ := ih1 a; obtain ⟨h3, h4⟩ := ih2 (a ++ [x]); simp only [Ex.db, Ex.size, Ex.tree, Tree.depth, Dr, List.isEmpty_cons, List.isEmpty_nil, cond_true, cond_false, h1, h2, h3, h4, and_self]
 | fn g x s u q ih => intro a; obtain ⟨h1, h2⟩ := ih (a ++ [g, x]); simp only [Ex.db, Ex.size, Ex.tree, Tree.depth, Dr, List.isEmpty_cons, List.isEmpty_nil, cond_true, cond_false, h1, h2, and_self]
 | un o p ih => intro a; obtain ⟨h1, h2⟩ := ih a; simp only [Ex.db, Ex.size, Ex.tree, Tree.depth, Dr, List.isEmpty_cons, cond_false, h1, h2, and_self]
theorem Ex.as.size {e e' : Ex} (h : e.as e') : e.size = e'.size ∧ e.tree.depth = e'.tree.depth := by
 have h1 := e.db_size []
 have h2 := e'.db_size []
 rw [show e.db [] = e'.db [] from h] at h1
 exact ⟨h1.1.symm.trans h2.1, h1.2.symm.trans h2.2⟩
theorem Ex.db_in : ∀ {v : Ex} {a b c : List As}, a.length = b.length → v.occ c = [] → v.db (a ++ c) = v.db (b ++ c) := by
 intro v
 induction v with
 | num s => intro a b c _ _; rfl
 | name s =>
  intro a b c hl h
  simp only [Ex.occ] at h
  have hc : s ∈ c := by
   by_cases hm : s ∈ c
   ·exact hm
   ·rw [if_neg hm] at h; cases h
  simp only [Ex.db, Mb]
  cases hs : B9 c s with
  | none => exact absurd hc (Gp.1 hs)
  | some i => simp only [hl]
 | bin o p q ih1 ih2 => intro a b c hl h; simp only [Ex.occ, List.append_eq_nil_iff] at h; simp only [Ex.db, ih1 hl h.1, ih2 hl h.2]
 | ite p q r ih1 ih2 ih3 => intro a b c hl h; simp only [Ex.occ, List.append_eq_nil_iff] at h; simp only [Ex.db, ih1 hl h.1.1, ih2 hl h.1.2, ih3 hl h.2]
 | lt x p q ih1 ih2 => intro a b c hl h; simp only [Ex.occ, List.append_eq_nil_iff] at h; simp only [Ex.db, List.append_assoc, ih1 hl h.1, ih2 hl h.2]
 | fn g x s u q ih => intro a b c hl h; simp only [Ex.occ] at h; simp only [Ex.db, List.append_assoc, ih hl h]
 | un o p ih => intro a b c hl h; simp only [Ex.occ] at h; simp only [Ex.db, ih hl h]
theorem Ex.db_cl {v : Ex} (h : v.occ [] = []) {a b : List As} (hl : a.length = b.length) : v.db a = v.db b := by
 have := Ex.db_in (v := v) (c := []) hl h
 simpa using this
def Ex.putIf (e : Ex) (n : As) (v : Ex) (a : List As) : Ex := if n ∈ a then e else e.put n v
theorem Kg {e : Ex} {n : As} {v : Ex} {a : List As} (h : n ∈ a) : e.putIf n v a = e := if_pos h
theorem Fd {e : Ex} {n : As} {v : Ex} {a : List As} (h : n ∉ a) : e.putIf n v a = e.put n v := if_neg h
theorem Tm (o : B5) (p q : Ex) (n : As) (v : Ex) (a : List As) : (Ex.bin o p q).putIf n v a = .bin o (p.putIf n v a) (q.putIf n v a) := by unfold Ex.putIf; split <;> rfl
theorem Tn (p q r : Ex) (n : As) (v : Ex) (a : List As) : (Ex.ite p q r).putIf n v a = .ite (p.putIf n v a) (q.putIf n v a) (r.putIf n v a) := by unfold Ex.putIf; split <;> rfl
theorem Xd (o : U2) (p : Ex) (n : As) (v : Ex) (a : List As) : (Ex.un o p).putIf n v a = .un o (p.putIf n v a) := by unfold Ex.putIf; split <;> rfl
theorem Xc (x : As) (p q : Ex) (n : As) (v : Ex) (a : List As) : (Ex.lt x p q).putIf n v a = .lt x (p.putIf n v a) (q.putIf n v (a ++ [x])) := by
 unfold Ex.putIf
 simp only [List.mem_append, List.mem_singleton, Ex.put]
 by_cases h : n ∈ a
 ·simp [h]
 ·by_cases h2 : x = n
  ·subst h2; simp [h]
  ·have h3 : ¬ n = x := fun e => h2 e.symm
   simp [h, h2, h3]
theorem Xb (g x : As) (s u : Ty) (q : Ex) (n : As) (v : Ex) (a : List As) : (Ex.fn g x s u q).putIf n v a = .fn g x s u (q.putIf n v (a ++ [g, x])) := by
 unfold Ex.putIf
 simp only [List.mem_append, List.mem_cons, List.not_mem_nil, or_false, Ex.put]
 by_cases h : n ∈ a
 ·simp [h]
 ·by_cases h2 : g = n ∨ x = n
  ·have : n = g ∨ n = x := h2.imp Eq.symm Eq.symm
   simp [h, h2, this]
  ·have : ¬ (n = g ∨ n = x) := fun e => h2 (e.imp Eq.symm Eq.symm)
   simp [h, h2, this]
theorem Ex.put_db {n : As} {v : Ex} (hv : v.occ [] = []) : ∀ {e e' : Ex} {a b : List As}, a.length = b.length → e.ok = true → e'.ok = true → e.db a = e'.db b → (e.putIf n v a).db a = (e'.putIf n v b).db b := by
 intro e
 induction e with
 | num s => intro e' a b hl h h' hd; cases e' <;> simp only [Ex.db, reduceCtorEq] at hd; cases hd; unfold Ex.putIf; split <;> split <;> rfl
 | name s =>
  intro e' a b hl h h' hd
  cases e' <;> simp only [Ex.db, reduceCtorEq] at hd
  rename_i s'
  simp only [Ex.ok] at h h'
  simp only [Ex.name.injEq] at hd
  cases hs : B9 a s with
  | none => cases ht : B9 b s' with
   | none =>
    rw [hs, ht] at hd; simp only at hd; subst hd
    have h1 := Gp.1 hs
    have h2 := Gp.1 ht
    by_cases e : s = n
    ·subst e; rw [Fd h1, Fd h2]
     simp only [Ex.put, if_true]
     exact Ex.db_cl hv hl
    ·have h3 : ∀ c, (Ex.name s).putIf n v c = .name s := fun c => by unfold Ex.putIf; split <;> simp [Ex.put, e]
     rw [h3, h3]; simp only [Ex.db, hs, ht]
   | some j => rw [hs, ht] at hd; exact absurd hd.symm (T8 h j)
  | some i => cases ht : B9 b s' with
   | none => rw [hs, ht] at hd; exact absurd hd (T8 h' i)
   | some j =>
    rw [hs, ht] at hd
    have h3 : ∀ {c : List As} {z : As}, z ∈ c → (Ex.name z).putIf n v c = .name z := fun {c z} hz => by
     by_cases e : z = n
     ·subst e; exact Kg hz
     ·unfold Ex.putIf; split <;> simp [Ex.put, e]
    rw [h3 (Kd hs), h3 (Kd ht)]
    simp only [Ex.db, hs, ht, Zi hd]
 | bin o p q ih1 ih2 =>
  intro e' a b hl h h' hd
  cases e' <;> simp only [Ex.db, reduceCtorEq] at hd
  simp only [Ex.ok, Bool.and_eq_true] at h h'
  simp only [Ex.bin.injEq] at hd
  simp only [Tm, Ex.db, ih1 hl h.1 h'.1 hd.2.1, ih2 hl h.2 h'.2 hd.2.2, hd.1]
 | ite p q r ih1 ih2 ih3 =>
  intro e' a b hl h h' hd
  cases e' <;> simp only [Ex.db, reduceCtorEq] at hd
  simp only [Ex.ok, Bool.and_eq_true] at h h'
  simp only [Ex.ite.injEq] at hd
  simp only [Tn, Ex.db, ih1 hl h.1.1 h'.1.1 hd.1, ih2 hl h.1.2 h'.1.2 hd.2.1, ih3 hl h.2 h'.2 hd.2.2]
 | lt x p q ih1 ih2 =>
  intro e' a b hl h h' hd
  cases e' <;> simp only [Ex.db, reduceCtorEq] at hd
  rename_i x' p' q'
  simp only [Ex.ok, Bool.and_eq_true] at h h'
  simp only [Ex.lt.injEq] at hd
  simp only [Xc, Ex.db, ih1 hl h.1.2 h'.1.2 hd.2.1, ih2 (a := a ++ [x]) (b := b ++ [x']) (by simp [hl]) h.2 h'.2 hd.2.2]
 | fn g x s u q ih =>
  intro e' a b hl h h' hd
  cases e' <;> simp only [Ex.db, reduceCtorEq] at hd
  rename_i g' x' s' u' q'
  simp only [Ex.ok, Bool.and_eq_true] at h h'
  simp only [Ex.fn.injEq] at hd
  simp only [Xb, Ex.db, ih (a := a ++ [g, x]) (b := b ++ [g', x']) (by simp [hl]) h.2 h'.2 hd.2.2.2.2, hd.2.2.1, hd.2.2.2.1]
 | un o p ih =>
  intro e' a b hl h h' hd
  cases e' <;> simp only [Ex.db, reduceCtorEq] at hd
  simp only [Ex.ok] at h h'
  simp only [Ex.un.injEq] at hd
  simp only [Xd, Ex.db, ih hl h h' hd.2, hd.1]
theorem Ex.as.put {e e' : Ex} (h : e.as e') (ho : e.ok = true) (ho' : e'.ok = true) {n : As} {v : Ex} (hv : v.occ [] = []) : (e.put n v).as (e'.put n v) := by
 have := Ex.put_db (n := n) hv (a := []) (b := []) rfl ho ho' h
 rwa [Fd Af, Fd Af] at this
/- Types of alike expressions. -/
theorem ty_bin (o : B5) (a b : Ex) (l : List As) (m : List Ty) : (Ex.bin o a b).ty l m = (a.ty l m).bind fun s => (b.ty l m).bind fun t => o.ty s t := by
 unfold Ex.ty; simp only [Ex.chk]
 cases a.chk l m with
 | error x => rfl
 | ok s => cases b.chk l m with
  | error x => rfl
  | ok t => simp only [Option.bind_some]; cases o.ty s t <;> rfl
theorem ty_ite (a b c : Ex) (l : List As) (m : List Ty) : (Ex.ite a b c).ty l m = (a.ty l m).bind fun s => (b.ty l m).bind fun t => (c.ty l m).bind fun u => if s = .i ∧ t = u then some t else none := by
 unfold Ex.ty; simp only [Ex.chk]
 cases a.chk l m with
 | error x => rfl
 | ok s => cases b.chk l m with
  | error x => rfl
  | ok t => cases c.chk l m with
   | error x => rfl
   | ok u =>
    simp only [Option.bind_some]
    by_cases h : s = .i ∧ t = u
    ·rw [if_pos h, if_pos h]
    ·rw [if_neg h, if_neg h]
theorem ty_lt (x : As) (a b : Ex) (l : List As) (m : List Ty) : (Ex.lt x a b).ty l m = (a.ty l m).bind fun s => b.ty (l ++ [x]) (m ++ [s]) := by
 unfold Ex.ty; simp only [Ex.chk]
 cases a.chk l m <;> rfl
theorem ty_fn (f x : As) (s t : Ty) (b : Ex) (l : List As) (m : List Ty) : (Ex.fn f x s t b).ty l m = if (Ty.fn s t).size ≤ 16 then (b.ty (l ++ [f, x]) (m ++ [.fn s t, s])).bind fun u => if u = t then some (.fn s t) else none else none := by
 unfold Ex.ty; simp only [Ex.chk]
 by_cases h : (Ty.fn s t).size ≤ 16
 ·rw [if_pos h, if_pos h]
  cases b.chk (l ++ [f, x]) (m ++ [.fn s t, s]) with
  | error x => rfl
  | ok u =>
   simp only [Option.bind_some]
   by_cases h : u = t
   ·rw [if_pos h, if_pos h]
   ·rw [if_neg h, if_neg h]
 ·rw [if_neg h, if_neg h]
theorem ty_un (o : U2) (a : Ex) (l : List As) (m : List Ty) : (Ex.un o a).ty l m = (a.ty l m).bind fun s => o.ty s := by
 unfold Ex.ty; simp only [Ex.chk]
 cases a.chk l m with
 | error x => rfl
 | ok s => simp only [Option.bind_some]; cases o.ty s <;> rfl
theorem ty_name (s : As) (l : List As) (m : List Ty) : (Ex.name s).ty l m = Fg l m s := by
 unfold Ex.ty; simp only [Ex.chk]
 cases Fg l m s <;> rfl
theorem R9 {l a : List As} {m k : List Ty} (h : l.length = m.length) (s : As) : Fg (l ++ a) (m ++ k) s = match B9 a s with | some i => k[i]? | none => Fg l m s := by
 unfold Fg
 rw [Mb]
 cases hs : B9 a s with
 | some i => simp only [Option.bind_some, h]; rw [List.getElem?_append_right Aa]; congr 1; omega
 | none =>
  simp only
  cases hi : B9 l s with
  | none => rfl
  | some i =>
   have := (Nn hi).1
   simp only [Option.bind_some]; rw [List.getElem?_append_left Aa]
theorem Ex.ty_db {l : List As} {m : List Ty} (hlm : l.length = m.length) : ∀ {e e' : Ex} {a b : List As} {k : List Ty}, a.length = k.length → b.length = k.length → e.ok = true → e'.ok = true → e.db a = e'.db b → e.ty (l ++ a) (m ++ k) = e'.ty (l ++ b) (m ++ k) := by
 intro e
 induction e with
 | num s => intro e' a b k h1 h2 h h' hd; cases e' <;> simp only [Ex.db, reduceCtorEq] at hd; rfl
 | name s =>
  intro e' a b k h1 h2 h h' hd
  cases e' <;> simp only [Ex.db, reduceCtorEq] at hd
  rename_i s'
  simp only [Ex.ok] at h h'
  simp only [Ex.name.injEq] at hd
  rw [ty_name, ty_name, R9 hlm, R9 hlm]
  cases hs : B9 a s with
  | none => cases ht : B9 b s' with
   | none => rw [hs, ht] at hd; simp only at hd; subst hd; rfl
   | some j => rw [hs, ht] at hd; exact absurd hd.symm (T8 h j)
  | some i => cases ht : B9 b s' with
   | none => rw [hs, ht] at hd; exact absurd hd (T8 h' i)
   | some j => rw [hs, ht] at hd; rw [Zi hd]
 | bin o p q ih1 ih2 =>
  intro e' a b k h1 h2 h h' hd
  cases e' <;> simp only [Ex.db, reduceCtorEq] at hd
  simp only [Ex.ok, Bool.and_eq_true] at h h'
  simp only [Ex.bin.injEq] at hd
  rw [ty_bin, ty_bin, ih1 h1 h2 h.1 h'.1 hd.2.1, ih2 h1 h2 h.2 h'.2 hd.2.2, hd.1]
 | ite p q r ih1 ih2 ih3 =>
  intro e' a b k h1 h2 h h' hd
  cases e' <;> simp only [Ex.db, reduceCtorEq] at hd
  simp only [Ex.ok, Bool.and_eq_true] at h h'
  simp only [Ex.ite.injEq] at hd
  rw [ty_ite, ty_ite, ih1 h1 h2 h.1.1 h'.1.1 hd.1, ih2 h1 h2 h.1.2 h'.1.2 hd.2.1, ih3 h1 h2 h.2 h'.2 hd.2.2]
 | lt x p q ih1 ih2 =>
  intro e' a b k h1 h2 h h' hd
  cases e' <;> simp only [Ex.db, reduceCtorEq] at hd
  rename_i x' p' q'
  simp only [Ex.ok, Bool.and_eq_true] at h h'
  simp only [Ex.lt.injEq] at hd
  rw [ty_lt, ty_lt, ih1 h1 h2 h.1.2 h'.1.2 hd.2.1]
  congr 1; funext s
  have := ih2 (a := a ++ [x]) (b := b ++ [x']) (k := k ++ [s]) (by simp [h1]) (by simp [h2]) h.2 h'.2 hd.2.2
  simpa only [List.append_assoc] using this
 | fn g x s u q ih =>
  intro e' a b k h1 h2 h h' hd
  cases e' <;> simp only [Ex.db, reduceCtorEq] at hd
  rename_i g' x' s' u' q'
  simp only [Ex.ok, Bool.and_eq_true] at h h'
  simp only [Ex.fn.injEq] at hd
  obtain ⟨-, -, rfl, rfl, hd⟩ := hd
  have := ih (a := a ++ [g, x]) (b := b ++ [g', x']) (k := k ++ [.fn s u, s]) (by simp [h1]) (by simp [h2]) h.2 h'.2 hd
  simp only [← List.append_assoc] at this
  rw [ty_fn, ty_fn, this]
 | un o p ih =>
  intro e' a b k h1 h2 h h' hd
  cases e' <;> simp only [Ex.db, reduceCtorEq] at hd
  simp only [Ex.ok] at h h'
  simp only [Ex.un.injEq] at hd
  rw [ty_un, ty_un, ih h1 h2 h h' hd.2, hd.1]
theorem Ex.as.ty {e e' : Ex} (h : e.as e') (ho : e.ok = true) (ho' : e'.ok = true) {l : List As} {m : List Ty} (hlm : l.length = m.length) : e.ty l m = e'.ty l m := by
 have := Ex.ty_db hlm (a := []) (b := []) (k := []) rfl rfl ho ho' h
 simpa using this
theorem Ex.as.hd {e e' : Ex} (h : e.as e') : e.hd = e'.hd := by
 have h : e.db [] = e'.db [] := h
 cases e <;> cases e' <;> simp only [Ex.db, reduceCtorEq] at h <;> first
  | rfl
  | (simp only [Ex.bin.injEq] at h; simp only [Ex.hd, h.1]; rfl)
  | (simp only [Ex.un.injEq] at h; simp only [Ex.hd, h.1]; rfl)
theorem Ex.as.symm {e e' : Ex} (h : e.as e') : e'.as e := Eq.symm h
theorem Ex.as.trans {e e' e'' : Ex} (h : e.as e') (h' : e'.as e'') : e.as e'' := Eq.trans h h'
theorem X2 {e : Ex} (h : e.closed = true) : e.occ [] = [] := by unfold Ex.closed at h; simpa using h
theorem closed_free {s : As} {e : Ex} (h : Cm s = some e) : Hp s = some [] := by
 obtain ⟨h1, h2, h3, h4, h5⟩ := Ga h
 unfold Hp
 rw [h1]
 have : e.free = [] := by unfold Ex.free; rw [X2 h5]; rfl
 simp [this]
theorem Wl {s : As} {e : Ex} (h : Ei s = some e) : Hp s = some e.free := by unfold Hp; rw [h]; rfl
def nul : Ex := .num [48]
theorem Ex.put0_occ : ∀ {e : Ex} {n x : As}, x ∈ (e.put n nul).occ [] ↔ x ∈ e.occ [] ∧ x ≠ n
 | .num s, n, x => by simp [Ex.put, Ex.occ]
 | .name s, n, x => by
  simp only [Ex.put]
  by_cases h : s = n
  ·subst h; simp [Ex.occ, nul]
  ·rw [if_neg h]
   simp only [Ex.occ, List.not_mem_nil, if_false, List.mem_singleton]
   constructor
   ·rintro rfl; exact ⟨rfl, h⟩
   ·exact fun hh => hh.1
 | .bin o a b, n, x => by
  simp only [Ex.put, Ex.occ, List.mem_append, Ex.put0_occ (e := a), Ex.put0_occ (e := b)]
  constructor
  ·rintro (⟨h1, h2⟩ | ⟨h1, h2⟩)
   ·exact ⟨.inl h1, h2⟩
   ·exact ⟨.inr h1, h2⟩
  ·rintro ⟨h1 | h1, h2⟩
   ·exact .inl ⟨h1, h2⟩
   ·exact .inr ⟨h1, h2⟩
 | .ite a b c, n, x => by
  simp only [Ex.put, Ex.occ, List.mem_append, Ex.put0_occ (e := a), Ex.put0_occ (e := b), Ex.put0_occ (e := c)]
  constructor
  ·rintro ((⟨h1, h2⟩ | ⟨h1, h2⟩) | ⟨h1, h2⟩)
   ·exact ⟨.inl (.inl h1), h2⟩
   ·exact ⟨.inl (.inr h1), h2⟩
   ·exact ⟨.inr h1, h2⟩
  ·rintro ⟨(h1 | h1) | h1, h2⟩
   ·exact .inl (.inl ⟨h1, h2⟩)
   ·exact .inl (.inr ⟨h1, h2⟩)
   ·exact .inr ⟨h1, h2⟩
 | .lt y a b, n, x => by
  simp only [Ex.put, Ex.occ, List.mem_append, List.nil_append, Ex.put0_occ (e := a)]
  rw [Ex.occ_mem (bd := [y]), Ex.occ_mem (e := b) (bd := [y])]
  simp only [List.mem_singleton]
  by_cases h : y = n
  ·subst h; rw [if_pos rfl]
   constructor
   ·rintro (⟨h1, h2⟩ | ⟨h1, h2⟩)
    ·exact ⟨.inl h1, h2⟩
    ·exact ⟨.inr ⟨h1, h2⟩, h2⟩
   ·rintro ⟨h1 | h1, h2⟩
    ·exact .inl ⟨h1, h2⟩
    ·exact .inr h1
  ·rw [if_neg h, Ex.put0_occ (e := b)]
   constructor
   ·rintro (⟨h1, h2⟩ | ⟨⟨h1, h3⟩, h2⟩)
    ·exact ⟨.inl h1, h2⟩
    ·exact ⟨.inr ⟨h1, h2⟩, h3⟩
   ·rintro ⟨h1 | ⟨h1, h3⟩, h2⟩
    ·exact .inl ⟨h1, h2⟩
    ·exact .inr ⟨⟨h1, h2⟩, h3⟩
 | .fn f y s t b, n, x => by
  simp only [Ex.put, Ex.occ, List.nil_append]
  rw [Ex.occ_mem (bd := [f, y]), Ex.occ_mem (e := b) (bd := [f, y])]
  simp only [List.mem_cons, List.not_mem_nil, or_false, not_or]
  by_cases h : f = n ∨ y = n
  ·rw [if_pos h]
   constructor
   ·rintro ⟨h1, h2, h3⟩; refine ⟨⟨h1, h2, h3⟩, ?_⟩
    rcases h with rfl | rfl
    ·exact h2
    ·exact h3
   ·exact fun hh => hh.1
  ·rw [if_neg h, Ex.put0_occ (e := b)]
   constructor
   ·rintro ⟨⟨h1, h4⟩, h2⟩; exact ⟨⟨h1, h2⟩, h4⟩
   ·rintro ⟨⟨h1, h2⟩, h4⟩; exact ⟨⟨h1, h4⟩, h2⟩
 | .un o a, n, x => by
  simp only [Ex.put, Ex.occ, Ex.put0_occ (e := a)]
def Ex.puts (e : Ex) (l : List As) : Ex := l.foldl (fun e n => e.put n nul) e
def Agz (s n : As) : Int := match Ei s with
 | some e => if Bn n = true then (((e.occ []).count n : Nat) : Int) else -1
 | none => -1
theorem Aew {v : Ex} (h : v.occ [] = []) (bd : List As) : v.occ bd = [] := by rw [Ex.occ_filter, h]; rfl
theorem Ex.put_occ0 {n : As} {v : Ex} (hv : v.occ [] = []) : ∀ (e : Ex) (bd : List As), (e.put n v).occ bd = (e.put n nul).occ bd
 | .num s, bd => rfl
 | .name s, bd => by
  simp only [Ex.put]
  by_cases h : s = n
  ·rw [if_pos h, if_pos h, Aew hv]; rfl
  ·rw [if_neg h, if_neg h]
 | .bin o a b, bd => by simp only [Ex.put, Ex.occ, Ex.put_occ0 hv a, Ex.put_occ0 hv b]
 | .ite a b c, bd => by simp only [Ex.put, Ex.occ, Ex.put_occ0 hv a, Ex.put_occ0 hv b, Ex.put_occ0 hv c]
 | .lt x a b, bd => by simp only [Ex.put, Ex.occ, Ex.put_occ0 hv a]; split <;> simp only [Ex.put_occ0 hv b]
 | .fn f x s t b, bd => by simp only [Ex.put, Ex.occ]; split <;> simp only [Ex.put_occ0 hv b]
 | .un o a, bd => by simp only [Ex.put, Ex.occ, Ex.put_occ0 hv a]
theorem Ex.put_occ {n x : As} {v e : Ex} (hv : v.occ [] = []) : x ∈ (e.put n v).occ [] ↔ x ∈ e.occ [] ∧ x ≠ n := by rw [Ex.put_occ0 hv e, Ex.put0_occ]
def Agy (a b : As) : Bool := match Ei a, Ei b with
 | some e, some f => e.alk f [] []
 | _, _ => false
theorem Ya {s : As} {e : Ex} (h : Ei s = some e) : Ei e.plain.tree.text = some e.plain := S2 (Yx (Mo h).1)
def K3 (n : Int) : Int := (n + 500) % 1000 - 500
theorem Tr (n : Int) : ((n + 500).tmod 1000 + 1000).tmod 1000 - 500 = K3 n := by
 unfold K3
 rw [Int.tmod_eq_emod_of_nonneg (a := (n + 500).tmod 1000 + 1000) (by have := Int.lt_tmod_of_pos (n + 500) (b := 1000) Ad; omega)]; rw [Int.tmod_eq_emod]
 split <;> omega
theorem Le (n : Int) : -500 ≤ K3 n ∧ K3 n ≤ 499 := by unfold K3; omega
def B5.calc (o : B5) (x y : Int) : Int := match o with
 | .add => x + y
 | .sub => x - y
 | _ => x * y
def B5.nums : B5 → Bool
 | .call => false
 | .pair => false
 | _ => true
def Pw (o : B5) (a b : As) : As := Oq (K3 (o.calc (Du a) (Du b)))
theorem Xj : ∀ k : Nat, k < 1000 → Bt (Oq ((k : Int) - 500)) = true ∧ Du (Oq ((k : Int) - 500)) = (k : Int) - 500 := by decide +kernel
theorem Ac3 {n : Int} (h0 : -500 ≤ n) (h1 : n ≤ 499) : Bt (Oq n) = true ∧ Du (Oq n) = n := by
 have := Xj (n + 500).toNat Aa
 rw [show ((n + 500).toNat : Int) - 500 = n by omega] at this
 exact this
theorem R0 (o : B5) (a b : As) : Bt (Pw o a b) = true ∧ Du (Pw o a b) = K3 (o.calc (Du a) (Du b)) := Ac3 (Le _).1 (Le _).2
theorem Aaa : ∀ (l : As), l.all Ef = true → Dw l < 10 ^ l.length := by
 have key : ∀ (l : As) (a : Nat), l.all Ef = true → l.foldl (fun n b => 10 * n + (b.toNat - 48)) a < (a + 1) * 10 ^ l.length := by
  intro l
  induction l with
  | nil => intro a _; simp
  | cons b r ih =>
   intro a h
   simp only [List.all_cons, Bool.and_eq_true] at h
   have hb : b.toNat - 48 ≤ 9 := by have := h.1; simp [Ef] at this; omega
   refine Nat.lt_of_lt_of_le (ih _ h.2) ?_; rw [List.length_cons, Nat.pow_succ]
   calc (10 * a + (b.toNat - 48) + 1) * 10 ^ r.length ≤ ((a + 1) * 10) * 10 ^ r.length := Nat.mul_le_mul_right _ Aa
    _ = (a + 1) * (10 ^ r.length * 10) := by rw [Nat.mul_assoc, Nat.mul_comm 10]
 intro l h
 have := key l 0 h
 simpa [Dw] using this
theorem Jw {s : As} (h : Bt s = true) : -999 ≤ Du s ∧ Du s ≤ 999 := by
 unfold Du
 split
 ·omega
 ·rename_i h0
  simp only [Bt, h0, decide_false, Bool.false_or, Bool.and_eq_true, decide_eq_true_eq] at h
  have h1 := Aaa (C6 s) h.1.2
  have h2 : 10 ^ (C6 s).length ≤ 10 ^ 3 := Nat.pow_le_pow_right Ad h.1.1.2
  split <;> omega
theorem Ko {s : As} (h : Bt s = true) : Du s = 0 ↔ s = [48] := by
 unfold Du
 split
 ·rename_i h0; simp [h0]
 ·rename_i h0
  simp only [h0, iff_false]
  simp only [Bt, h0, decide_false, Bool.false_or, Bool.and_eq_true, decide_eq_true_eq, Bool.not_eq_true', decide_eq_false_iff_not] at h
  have h1 : 1 ≤ Dw (C6 s) := by
   cases hu : C6 s with
   | nil => rw [hu] at h; simp at h
   | cons b r =>
    rw [hu] at h
    have hb : 49 ≤ b.toNat := by
     have h3 := h.1.2
     have h4 := h.2
     simp [Ef] at h3 h4
     omega
    have hm : ∀ (r : As) (a : Nat), 1 ≤ a → 1 ≤ r.foldl (fun n b => 10 * n + (b.toNat - 48)) a := by
     intro r
     induction r with
     | nil => intro a ha; exact ha
     | cons c r ih => intro a ha; exact ih (10 * a + (c.toNat - 48)) Aa
    exact hm r (10 * 0 + (b.toNat - 48)) Aa
  split <;> omega
def Ex.turn : Ex → Option Ex
 | .bin .call (.fn f x s t b) v => some ((b.put f (.fn f x s t b)).put x v)
 | .bin o (.num a) (.num b) => if o.nums = true then some (.num (Pw o a b)) else none
 | .ite (.num a) b c => some (if a = [48] then b else c)
 | .lt x a b => some (b.put x a)
 | .un .fst (.bin .pair a b) => some a
 | .un .snd (.bin .pair a b) => some b
 | _ => none
def Ex.step : Ex → Option Ex
 | .bin o a b => if a.value = false then a.step.map fun c => .bin o c b else if b.value = false then b.step.map fun c => .bin o a c else (Ex.bin o a b).turn
 | .ite a b c => if a.value = false then a.step.map fun d => .ite d b c else (Ex.ite a b c).turn
 | .lt x a b => if a.value = false then a.step.map fun d => .lt x d b else (Ex.lt x a b).turn
 | .un o a => if a.value = false then a.step.map fun d => .un o d else (Ex.un o a).turn
 | _ => none
theorem R7 {o : B5} {a b e' : Ex} (h : (Ex.bin o a b).turn = some e') : (∃ f x s t c, o = .call ∧ a = .fn f x s t c ∧ e' = (c.put f (.fn f x s t c)).put x b) ∨ (∃ p q, o.nums = true ∧ a = .num p ∧ b = .num q ∧ e' = .num (Pw o p q)) := by
 cases a with
 | fn f x s t c =>
  cases o <;> first
   | (exact .inl ⟨f, x, s, t, c, rfl, rfl, (Option.some.inj h).symm⟩)
   | (cases b <;> cases h)
 | num p =>
  cases b with
  | num q =>
   have h : (if o.nums = true then some (Ex.num (Pw o p q)) else none) = some e' := by cases o <;> exact h
   split at h
   ·rename_i ho; exact .inr ⟨p, q, ho, rfl, rfl, (Option.some.inj h).symm⟩
   ·cases h
  | _ => cases o <;> cases h
 | _ => cases o <;> first | cases h | (cases b <;> cases h)
theorem R8 {a b c e' : Ex} (h : (Ex.ite a b c).turn = some e') : ∃ p, a = .num p ∧ e' = if p = [48] then b else c := by
 cases a <;> first | exact ⟨_, rfl, (Option.some.inj h).symm⟩ | cases h
def U2.pick (o : U2) (p q : Ex) : Ex := match o with
 | .fst => p
 | .snd => q
theorem Vp {o : U2} {a e' : Ex} (h : (Ex.un o a).turn = some e') : ∃ p q, a = .bin .pair p q ∧ e' = o.pick p q := by
 cases a with
 | bin k p q => cases k <;> cases o <;> first | exact ⟨p, q, rfl, (Option.some.inj h).symm⟩ | cases h
 | _ => cases o <;> cases h
theorem Ex.step_ok : ∀ {e e' : Ex}, e.ok = true → e.step = some e' → e'.ok = true
 | .num _, e', h, hs => by cases hs
 | .name _, e', h, hs => by cases hs
 | .fn _ _ _ _ _, e', h, hs => by cases hs
 | .bin o a b, e', h, hs => by
  simp only [Ex.ok, Bool.and_eq_true] at h
  simp only [Ex.step] at hs
  split at hs
  ·obtain ⟨c, hc, rfl⟩ := Option.map_eq_some_iff.1 hs
   simp only [Ex.ok, Bool.and_eq_true]; exact ⟨Ex.step_ok h.1 hc, h.2⟩
  ·split at hs
   ·obtain ⟨c, hc, rfl⟩ := Option.map_eq_some_iff.1 hs
    simp only [Ex.ok, Bool.and_eq_true]; exact ⟨h.1, Ex.step_ok h.2 hc⟩
   ·rcases R7 hs with ⟨f, x, s, t, c, rfl, rfl, rfl⟩ | ⟨p, q, ho, rfl, rfl, rfl⟩
    ·have hc : c.ok = true := by have := h.1; simp only [Ex.ok, Bool.and_eq_true] at this; exact this.2
     exact Ex.put_ok (Ex.put_ok hc h.1) h.2
    ·exact (R0 o p q).1
 | .ite a b c, e', h, hs => by
  simp only [Ex.ok, Bool.and_eq_true] at h
  simp only [Ex.step] at hs
  split at hs
  ·obtain ⟨d, hd, rfl⟩ := Option.map_eq_some_iff.1 hs
   simp only [Ex.ok, Bool.and_eq_true]; exact ⟨⟨Ex.step_ok h.1.1 hd, h.1.2⟩, h.2⟩
  ·obtain ⟨p, rfl, rfl⟩ := R8 hs
   split
   ·exact h.1.2
   ·exact h.2
 | .lt x a b, e', h, hs => by
  simp only [Ex.ok, Bool.and_eq_true] at h
  simp only [Ex.step] at hs
  split at hs
  ·obtain ⟨d, hd, rfl⟩ := Option.map_eq_some_iff.1 hs
   simp only [Ex.ok, Bool.and_eq_true]; exact ⟨⟨h.1.1, Ex.step_ok h.1.2 hd⟩, h.2⟩
  ·obtain rfl := (Option.some.inj hs).symm
   exact Ex.put_ok h.2 h.1.2
 | .un o a, e', h, hs => by
  have h1 : a.ok = true := h
  simp only [Ex.step] at hs
  split at hs
  ·obtain ⟨d, hd, rfl⟩ := Option.map_eq_some_iff.1 hs
   show d.ok = true
   exact Ex.step_ok h1 hd
  ·obtain ⟨p, q, rfl, rfl⟩ := Vp hs
   simp only [Ex.ok, Bool.and_eq_true] at h1
   cases o
   ·exact h1.1
   ·exact h1.2
theorem Gl {a b : List As} (h : a ++ b = []) : a = [] ∧ b = [] := List.append_eq_nil_iff.1 h
theorem Rv {e : Ex} {bd : List As} : e.occ bd = [] ↔ ∀ x ∈ e.occ [], x ∈ bd := by
 rw [Ex.occ_filter, List.filter_eq_nil_iff]
 constructor
 ·intro h x hx; have := h x hx; simpa using this
 ·intro h x hx; simpa using h x hx
theorem Ex.step_closed : ∀ {e e' : Ex}, e.occ [] = [] → e.step = some e' → e'.occ [] = []
 | .num _, e', h, hs => by cases hs
 | .name _, e', h, hs => by cases hs
 | .fn _ _ _ _ _, e', h, hs => by cases hs
 | .bin o a b, e', h, hs => by
  obtain ⟨h1, h2⟩ := Gl (show a.occ [] ++ b.occ [] = [] from h)
  simp only [Ex.step] at hs
  split at hs
  ·obtain ⟨c, hc, rfl⟩ := Option.map_eq_some_iff.1 hs
   simp only [Ex.occ, Ex.step_closed h1 hc, h2, List.append_nil]
  ·split at hs
   ·obtain ⟨c, hc, rfl⟩ := Option.map_eq_some_iff.1 hs
    simp only [Ex.occ, Ex.step_closed h2 hc, h1, List.append_nil]
   ·rcases R7 hs with ⟨f, x, s, t, c, rfl, rfl, rfl⟩ | ⟨p, q, ho, rfl, rfl, rfl⟩
    ·have hc : ∀ y ∈ c.occ [], y ∈ [f, x] := Rv.1 (show c.occ ([] ++ [f, x]) = [] from h1)
     rw [List.eq_nil_iff_forall_not_mem]; intro y hy; obtain ⟨hy, hx⟩ := (Ex.put_occ h2).1 hy; obtain ⟨hy, hf⟩ := (Ex.put_occ h1).1 hy
     have := hc y hy
     simp only [List.mem_cons, List.not_mem_nil, or_false] at this
     exact this.elim hf hx
    ·rfl
 | .ite a b c, e', h, hs => by
  obtain ⟨h1, h3⟩ := Gl (show (a.occ [] ++ b.occ []) ++ c.occ [] = [] from h); obtain ⟨h1, h2⟩ := Gl h1
  simp only [Ex.step] at hs
  split at hs
  ·obtain ⟨d, hd, rfl⟩ := Option.map_eq_some_iff.1 hs
   simp only [Ex.occ, Ex.step_closed h1 hd, h2, h3, List.append_nil]
  ·obtain ⟨p, rfl, rfl⟩ := R8 hs
   split
   ·exact h2
   ·exact h3
 | .lt x a b, e', h, hs => by
  obtain ⟨h1, h2⟩ := Gl (show a.occ [] ++ b.occ ([] ++ [x]) = [] from h)
  simp only [Ex.step] at hs
  split at hs
  ·obtain ⟨d, hd, rfl⟩ := Option.map_eq_some_iff.1 hs
   simp only [Ex.occ, Ex.step_closed h1 hd, List.nil_append]; exact h2
  ·obtain rfl := (Option.some.inj hs).symm
   have hc := Rv.1 h2
   rw [List.eq_nil_iff_forall_not_mem]; intro y hy; obtain ⟨hy, hx⟩ := (Ex.put_occ h1).1 hy
   have := hc y hy
   simp only [List.nil_append, List.mem_cons, List.not_mem_nil, or_false] at this
   exact hx this
 | .un o a, e', h, hs => by
  have h : a.occ [] = [] := h
  simp only [Ex.step] at hs
  split at hs
  ·obtain ⟨d, hd, rfl⟩ := Option.map_eq_some_iff.1 hs
   show d.occ [] = []
   exact Ex.step_closed h hd
  ·obtain ⟨p, q, rfl, rfl⟩ := Vp hs; obtain ⟨h1, h2⟩ := Gl (show p.occ [] ++ q.occ [] = [] from h)
   cases o
   ·exact h1
   ·exact h2
def Ex.go (e : Ex) : Option Ex := if e.value = true then none else e.step.bind fun e' => if e'.fine = true then some e' else none
def Ahj (s : As) : Option As := (Cm s).bind fun e => e.go.map fun e' => e'.tree.text
def Ag7 (s : As) : Bool := match Cm s with
 | some e => !e.value && e.step.isNone
 | none => false
def Ex.goes (e : Ex) : Nat → Ex × Nat
 | 0 => (e, 0)
 | n + 1 => match e.go with
  | some e' => ((e'.goes n).1, (e'.goes n).2 + 1)
  | none => (e, 0)
theorem Oo {e e' : Ex} (h : e.go = some e') : e.value = false ∧ e.step = some e' ∧ e'.fine = true := by
 unfold Ex.go at h
 split at h
 ·cases h
 ·rename_i hv
  cases hs : e.step with
  | none => rw [hs] at h; cases h
  | some d =>
   rw [hs] at h
   simp only [Option.bind_some] at h
   split at h
   ·rename_i hf; obtain rfl := Option.some.inj h; exact ⟨by simpa using hv, rfl, hf⟩
   ·cases h
theorem P7 {e : Ex} (hf : e.fine = true) (hc : e.occ [] = []) : Cm e.tree.text = some e := by
 unfold Cm
 rw [S2 hf]
 simp [Ex.closed, hc]
theorem Aaw {e e' : Ex} (hc : e.occ [] = []) (h : e.go = some e') : Cm e'.tree.text = some e' ∧ e'.occ [] = [] :=
 ⟨P7 (Oo h).2.2 (Ex.step_closed hc (Oo h).2.1), Ex.step_closed hc (Oo h).2.1⟩
theorem Y9 {e : Ex} {l : List As} {m : List Ty} {t : Ty} : e.ty l m = some t ↔ e.chk l m = .ok t := by
 unfold Ex.ty
 cases e.chk l m with
 | ok u => simp
 | error x => simp
theorem Adv {e : Ex} (h : e.occ [] = []) {l l' : List As} {m m' : List Ty} (hl : l.length = m.length) (hl' : l'.length = m'.length) : e.ty l m = e.ty l' m' := by
 unfold Ex.ty
 rw [Ex.chk_congr (l' := l') (m' := m') hl hl' (fun x hx => by rw [h] at hx; cases hx)]
theorem Y1 {e v : Ex} {n : As} {k t : Ty} {l : List As} {m : List Ty} (hl : l.length = m.length) (hv : v.ty [] [] = some k) (hn : Fg l m n = some k) (he : e.ty l m = some t) : (e.put n v).ty l m = some t :=
 Y9.2 (Ex.put_chk hl (Y9.1 hv) hn (Y9.1 he))
theorem Qx {e e' : Ex} {t : Ty} (hok : e.ok = true) (hc : e.occ [] = []) (hs : e.turn = some e') (hs' : e'.occ [] = []) (h : e.ty [] [] = some t) : e'.ty [] [] = some t := by
 cases e with
 | num s => cases hs
 | name s => cases hs
 | fn f x s u b => cases hs
 | bin o a b =>
  simp only [Ex.ok, Bool.and_eq_true] at hok
  rw [ty_bin] at h; obtain ⟨p, hp, h'⟩ := Option.bind_eq_some_iff.1 h; clear h; have h := h'; clear h'; obtain ⟨q, hq, h'⟩ := Option.bind_eq_some_iff.1 h; clear h; have h := h'; clear h'
  rcases R7 hs with ⟨f, x, s, u, c, rfl, rfl, rfl⟩ | ⟨y, z, ho, rfl, rfl, rfl⟩
  ·have hpf := hp
   rw [ty_fn] at hp
   split at hp
   ·rename_i hsz
    obtain ⟨r, hr, hp⟩ := Option.bind_eq_some_iff.1 hp
    split at hp
    ·rename_i hru
     subst hru; obtain rfl := Option.some.inj hp
     replace h : (if s = q then some r else none) = some t := h
     split at h
     ·rename_i hsq
      subst hsq; obtain rfl := Option.some.inj h
      have hfx : f ≠ x := by
       have := hok.1
       simp only [Ex.ok, Bool.and_eq_true, decide_eq_true_eq] at this
       exact this.1.1.1.2
      have h1 := Y1 (n := f) (l := [] ++ [f, x]) (m := [] ++ [.fn s r, s]) rfl hpf (by rw [Je rfl, if_neg (Ne.symm hfx), if_pos rfl]) hr
      have h2 := Y1 (n := x) (l := [] ++ [f, x]) (m := [] ++ [.fn s r, s]) rfl hq (by rw [Je rfl, if_pos rfl]) h1
      rw [Adv hs' (l' := [] ++ [f, x]) (m' := [] ++ [.fn s r, s]) rfl rfl]; exact h2
     ·cases h
    ·cases hp
   ·cases hp
  ·have ht : t = .i := by
    cases o <;> first | (cases ho; done) | skip
    all_goals
     replace h : (if p = .i ∧ q = .i then some Ty.i else none) = some t := h
     split at h
     ·exact (Option.some.inj h).symm
     ·cases h
   rw [ht]; rfl
 | ite a b c =>
  rw [ty_ite] at h; obtain ⟨p, hp, h'⟩ := Option.bind_eq_some_iff.1 h; clear h; have h := h'; clear h'; obtain ⟨q, hq, h'⟩ := Option.bind_eq_some_iff.1 h; clear h; have h := h'; clear h'; obtain ⟨r, hr, h'⟩ := Option.bind_eq_some_iff.1 h; clear h; have h := h'; clear h'
  split at h
  ·rename_i hi
   obtain rfl := Option.some.inj h; obtain ⟨y, rfl, rfl⟩ := R8 hs
   split
   ·exact hq
   ·rw [hi.2]; exact hr
  ·cases h
 | lt x a b =>
  rw [ty_lt] at h; obtain ⟨p, hp, h'⟩ := Option.bind_eq_some_iff.1 h; clear h; have h := h'; clear h'; obtain rfl := (Option.some.inj hs).symm
  have h1 := Y1 (n := x) (l := [] ++ [x]) (m := [] ++ [p]) rfl hp (by rw [H6 rfl, if_pos rfl]) h
  rw [Adv hs' (l' := [] ++ [x]) (m' := [] ++ [p]) rfl rfl]; exact h1
 | un o a =>
  rw [ty_un] at h; obtain ⟨p, hp, h'⟩ := Option.bind_eq_some_iff.1 h; clear h; have h := h'; clear h'; obtain ⟨y, z, rfl, rfl⟩ := Vp hs; rw [ty_bin] at hp; obtain ⟨q, hq, hp⟩ := Option.bind_eq_some_iff.1 hp; obtain ⟨r, hr, hp⟩ := Option.bind_eq_some_iff.1 hp
  have hp : (if (Ty.pr q r).size ≤ 16 then some (Ty.pr q r) else none) = some p := hp
  split at hp
  ·obtain rfl := Option.some.inj hp
   cases o with
   | fst => obtain rfl := Option.some.inj (show some q = some t from h); exact hq
   | snd => obtain rfl := Option.some.inj (show some r = some t from h); exact hr
  ·cases hp
theorem Iz : ∀ {e e' : Ex} {t : Ty}, e.ok = true → e.occ [] = [] → e.step = some e' → e.ty [] [] = some t → e'.ty [] [] = some t
 | .num _, e', t, hok, hc, hs, h => by cases hs
 | .name _, e', t, hok, hc, hs, h => by cases hs
 | .fn _ _ _ _ _, e', t, hok, hc, hs, h => by cases hs
 | .bin o a b, e', t, hok, hc, hs, h => by
  have hs0 := hs
  have hok0 := hok
  obtain ⟨h1, h2⟩ := Gl (show a.occ [] ++ b.occ [] = [] from hc)
  simp only [Ex.ok, Bool.and_eq_true] at hok
  simp only [Ex.step] at hs
  split at hs
  ·obtain ⟨c, hd, rfl⟩ := Option.map_eq_some_iff.1 hs; rw [ty_bin] at h ⊢; obtain ⟨p, hp, h'⟩ := Option.bind_eq_some_iff.1 h; clear h; have h := h'; clear h'; rw [Iz hok.1 h1 hd hp]; exact h
  ·split at hs
   ·obtain ⟨c, hd, rfl⟩ := Option.map_eq_some_iff.1 hs; rw [ty_bin] at h ⊢; obtain ⟨p, hp, h'⟩ := Option.bind_eq_some_iff.1 h; clear h; have h := h'; clear h'; obtain ⟨q, hq, h'⟩ := Option.bind_eq_some_iff.1 h; clear h; have h := h'; clear h'; rw [hp, Option.bind_some, Iz hok.2 h2 hd hq]; exact h
   ·exact Qx hok0 hc hs (Ex.step_closed hc hs0) h
 | .ite a b c, e', t, hok, hc, hs, h => by
  have hs0 := hs
  have hok0 := hok
  obtain ⟨h1, h3⟩ := Gl (show (a.occ [] ++ b.occ []) ++ c.occ [] = [] from hc); obtain ⟨h1, h2⟩ := Gl h1
  simp only [Ex.ok, Bool.and_eq_true] at hok
  simp only [Ex.step] at hs
  split at hs
  ·obtain ⟨d, hd, rfl⟩ := Option.map_eq_some_iff.1 hs; rw [ty_ite] at h ⊢; obtain ⟨p, hp, h'⟩ := Option.bind_eq_some_iff.1 h; clear h; have h := h'; clear h'; rw [Iz hok.1.1 h1 hd hp]; exact h
  ·exact Qx hok0 hc hs (Ex.step_closed hc hs0) h
 | .lt x a b, e', t, hok, hc, hs, h => by
  have hs0 := hs
  have hok0 := hok
  obtain ⟨h1, h2⟩ := Gl (show a.occ [] ++ b.occ ([] ++ [x]) = [] from hc)
  simp only [Ex.ok, Bool.and_eq_true] at hok
  simp only [Ex.step] at hs
  split at hs
  ·obtain ⟨d, hd, rfl⟩ := Option.map_eq_some_iff.1 hs; rw [ty_lt] at h ⊢; obtain ⟨p, hp, h'⟩ := Option.bind_eq_some_iff.1 h; clear h; have h := h'; clear h'; rw [Iz hok.1.2 h1 hd hp]; exact h
  ·exact Qx hok0 hc hs (Ex.step_closed hc hs0) h
 | .un o a, e', t, hok, hc, hs, h => by
  have hs0 := hs
  have hok0 := hok
  have h1 : a.occ [] = [] := hc
  have hok1 : a.ok = true := hok
  simp only [Ex.step] at hs
  split at hs
  ·obtain ⟨d, hd, rfl⟩ := Option.map_eq_some_iff.1 hs; rw [ty_un] at h ⊢; obtain ⟨p, hp, h'⟩ := Option.bind_eq_some_iff.1 h; clear h; have h := h'; clear h'; rw [Iz hok1 h1 hd hp]; exact h
  ·exact Qx hok0 hc hs (Ex.step_closed hc hs0) h
theorem Nw : ∀ {e : Ex}, e.value = true → e.step = none
 | .num _, h => rfl
 | .name _, h => rfl
 | .fn _ _ _ _ _, h => rfl
 | .bin o a b, h => by
  cases o <;> first | (cases h; done) | skip
  simp only [Ex.value, Bool.and_eq_true] at h
  simp only [Ex.step, h.1, h.2, Bool.true_eq_false, if_false]
  cases a with
  | num p => cases b <;> rfl
  | _ => rfl
theorem Aax (n : Nat) : ∀ e : Ex, e.fine = true → e.occ [] = [] → (e.goes n).1.fine = true ∧ (e.goes n).1.occ [] = [] := by
 induction n with
 | zero => intro e h h'; exact ⟨h, h'⟩
 | succ n ih =>
  intro e h h'
  simp only [Ex.goes]
  cases hg : e.go with
  | none => exact ⟨h, h'⟩
  | some d => exact ih d (Oo hg).2.2 (Aaw h' hg).2
def Afh (s : As) (n : Int) : Option (As × Nat) := if 0 ≤ n ∧ n ≤ 500 then (Cm s).map fun e => ((e.goes n.toNat).1.tree.text, (e.goes n.toNat).2) else none
open Go.Shelf
def Wz : Go.Shelf.Ren := ⟨fun | 172 => 113 | 244 => 156 | 245 => 157 | 247 => 188 | 279 => 189 | 280 => 190 | 281 => 191 | 282 => 192 | 287 => 202 | 316 => 203 | 171 => 158 | 205 => 204 | 321 => 210 | 322 => 211 | 243 => 193 | 246 => 205 | 283 => 212 | 284 => 213 | 285 => 214 | 286 => 215 | 129 => 217 | 317 => 216 | 318 => 218 | 319 => 219 | 320 => 220 | 337 => 221 | 338 => 222 | n => n, fun | 9 => 9 | 3 => 3 | 75 => 112 | 76 => 113 | 4 => 4 | 5 => 5 | 167 => 191 | 37 => 22 | 0 => 0 | 85 => 192 | 2 => 2 | 168 => 194 | 53 => 201 | 175 => 202 | 46 => 204 | 210 => 207 | 127 => 115 | 145 => 214 | 143 => 212 | 21 => 21 | 171 => 215 | 173 => 218 | 212 => 221 | 51 => 222 | 20 => 20 | 213 => 223 | 232 => 227 | 233 => 228 | 80 => 63 | n => n, fun | 15 => 0 | 16 => 1 | 17 => 2 | 18 => 3 | 19 => 4 | n => n⟩
theorem Aer : Go.Proofs.Lays.n172 Tryz.prog Wz := {
 mixed := by kernel_rfl
 f129 := Tryz.func217.trans (congrArg some (by kernel_rfl))
 f171 := Tryz.func158.trans (congrArg some (by kernel_rfl))
 f172 := Tryz.func113.trans (congrArg some (by kernel_rfl))
 f205 := Tryz.func204.trans (congrArg some (by kernel_rfl))
 f243 := Tryz.func193.trans (congrArg some (by kernel_rfl))
 f244 := Tryz.func156.trans (congrArg some (by kernel_rfl))
 f245 := Tryz.func157.trans (congrArg some (by kernel_rfl))
 f246 := Tryz.func205.trans (congrArg some (by kernel_rfl))
 f247 := Tryz.func188.trans (congrArg some (by kernel_rfl))
 f279 := Tryz.func189.trans (congrArg some (by kernel_rfl))
 f280 := Tryz.func190.trans (congrArg some (by kernel_rfl))
 f281 := Tryz.func191.trans (congrArg some (by kernel_rfl))
 f282 := Tryz.func192.trans (congrArg some (by kernel_rfl))
 f283 := Tryz.func212.trans (congrArg some (by kernel_rfl))
 f284 := Tryz.func213.trans (congrArg some (by kernel_rfl))
 f285 := Tryz.func214.trans (congrArg some (by kernel_rfl))
 f286 := Tryz.func215.trans (congrArg some (by kernel_rfl))
 f287 := Tryz.func202.trans (congrArg some (by kernel_rfl))
 f316 := Tryz.func203.trans (congrArg some (by kernel_rfl))
 f317 := Tryz.func216.trans (congrArg some (by kernel_rfl))
 f318 := Tryz.func218.trans (congrArg some (by kernel_rfl))
 f319 := Tryz.func219.trans (congrArg some (by kernel_rfl))
 f320 := Tryz.func220.trans (congrArg some (by kernel_rfl))
 f321 := Tryz.func210.trans (congrArg some (by kernel_rfl))
 f322 := Tryz.func211.trans (congrArg some (by kernel_rfl))
 f337 := Tryz.func221.trans (congrArg some (by kernel_rfl))
 f338 := Tryz.func222.trans (congrArg some (by kernel_rfl))
 t0 := Tryz.underlying0
 a0 := Tryz.isAgg0
 z0 := Tryz.sizeOf0
 v0 := Tryz.zeroValue0
 t2 := Tryz.underlying2
 a2 := Tryz.isAgg2
 z2 := Tryz.sizeOf2
 v2 := Tryz.zeroValue2
 t3 := Tryz.underlying3
 a3 := Tryz.isAgg3
 z3 := Tryz.sizeOf3
 v3 := Tryz.zeroValue3
 t4 := Tryz.underlying4
 a4 := Tryz.isAgg4
 z4 := Tryz.sizeOf4
 v4 := Tryz.zeroValue4
 t5 := Tryz.underlying5
 a5 := Tryz.isAgg5
 z5 := Tryz.sizeOf5
 v5 := Tryz.zeroValue5
 t9 := Tryz.underlying9
 a9 := Tryz.isAgg9
 z9 := Tryz.sizeOf9
 v9 := Tryz.zeroValue9
 t20 := Tryz.underlying20
 a20 := Tryz.isAgg20
 z20 := Tryz.sizeOf20
 v20 := Tryz.zeroValue20
 t21 := Tryz.underlying21
 a21 := Tryz.isAgg21
 z21 := Tryz.sizeOf21
 v21 := Tryz.zeroValue21
 t37 := Tryz.underlying22
 a37 := Tryz.isAgg22
 z37 := Tryz.sizeOf22
 v37 := Tryz.zeroValue22
 t46 := Tryz.underlying204
 a46 := Tryz.isAgg204
 z46 := Tryz.sizeOf204
 v46 := Tryz.zeroValue204
 t51 := Tryz.underlying222
 a51 := Tryz.isAgg222
 z51 := Tryz.sizeOf222
 v51 := Tryz.zeroValue222
 t53 := Tryz.underlying201
 a53 := Tryz.isAgg201
 z53 := Tryz.sizeOf201
 v53 := Tryz.zeroValue201
 t75 := Tryz.underlying112
 a75 := Tryz.isAgg112
 z75 := Tryz.sizeOf112
 v75 := Tryz.zeroValue112
 t76 := Tryz.underlying113
 a76 := Tryz.isAgg113
 z76 := Tryz.sizeOf113
 v76 := Tryz.zeroValue113
 t85 := Tryz.underlying192
 a85 := Tryz.isAgg192
 z85 := Tryz.sizeOf192
 v85 := Tryz.zeroValue192
 t127 := Tryz.underlying115
 a127 := Tryz.isAgg115
 z127 := Tryz.sizeOf115
 v127 := Tryz.zeroValue115
 t143 := Tryz.underlying212
 a143 := Tryz.isAgg212
 z143 := Tryz.sizeOf212
 v143 := Tryz.zeroValue212
 t145 := Tryz.underlying214
 a145 := Tryz.isAgg214
 z145 := Tryz.sizeOf214
 v145 := Tryz.zeroValue214
 t167 := Tryz.underlying191
 a167 := Tryz.isAgg191
 z167 := Tryz.sizeOf191
 v167 := Tryz.zeroValue191
 t168 := Tryz.underlying194
 a168 := Tryz.isAgg194
 z168 := Tryz.sizeOf194
 v168 := Tryz.zeroValue194
 t171 := Tryz.underlying215
 a171 := Tryz.isAgg215
 z171 := Tryz.sizeOf215
 v171 := Tryz.zeroValue215
 t173 := Tryz.underlying218
 a173 := Tryz.isAgg218
 z173 := Tryz.sizeOf218
 v173 := Tryz.zeroValue218
 t175 := Tryz.underlying202
 a175 := Tryz.isAgg202
 z175 := Tryz.sizeOf202
 v175 := Tryz.zeroValue202
 t210 := Tryz.underlying207
 a210 := Tryz.isAgg207
 z210 := Tryz.sizeOf207
 v210 := Tryz.zeroValue207
 t212 := Tryz.underlying221
 a212 := Tryz.isAgg221
 z212 := Tryz.sizeOf221
 v212 := Tryz.zeroValue221
 t213 := Tryz.underlying223
 a213 := Tryz.isAgg223
 z213 := Tryz.sizeOf223
 t232 := Tryz.underlying227
 a232 := Tryz.isAgg227
 z232 := Tryz.sizeOf227
 v232 := Tryz.zeroValue227
 t233 := Tryz.underlying228
 a233 := Tryz.isAgg228
 z233 := Tryz.sizeOf228
 v233 := Tryz.zeroValue228
 g15 := by kernel_rfl
 g16 := by kernel_rfl
 g17 := by kernel_rfl
 g18 := by kernel_rfl
 g19 := by kernel_rfl }
theorem Mem.frozenAt {I : Heap} {L : Bh} {b k m : Nat} {o : Obj} {w : World} (h : Mem I ((b, o) :: L) w) : Mem I L (w.freeze ⟨b, k, none⟩ m) := by
 obtain ⟨h1, h2, h3⟩ := h
 have hb := h2 (b, o) (.head _)
 have hn : b ∉ L.map (·.1) ∧ (L.map (·.1)).Nodup := List.nodup_cons.1 h3
 unfold World.freeze
 split
 ·exact ⟨h1, fun p hp => h2 p (.tail _ hp), hn.2⟩
 ·refine ⟨⟨fun c u hc => ?_, h1.2⟩, fun p hp => ⟨?_, (h2 p (.tail _ hp)).2⟩, hn.2⟩
  ·have hne : b ≠ c := fun e => by subst e; rw [hb.2] at hc; cases hc
   simp only [Array.getElem?_modify, if_neg hne]
   exact h1.1 c u hc
  ·have hne : b ≠ p.1 := fun e => hn.1 (e ▸ List.mem_map.2 ⟨p, hp, rfl⟩)
   simp only [Array.getElem?_modify, if_neg hne]
   exact (h2 p (.tail _ hp)).1
theorem P8 : ∀ (l : As) (a : Nat), l.all Ef = true → Lib.decFrom a l = some (l.foldl (fun n b => 10 * n + (b.toNat - 48)) a)
 | [], a, _ => rfl
 | b :: r, a, h => by
  simp only [List.all_cons, Bool.and_eq_true] at h
  have hb : 48 ≤ b.toNat ∧ b.toNat ≤ 57 := by have := h.1; simpa [Ef] using this
  have := P8 r (a * 10 + (b.toNat - 48)) h.2
  rw [Nat.mul_comm a 10] at this
  simp only [Lib.decFrom, Lib.digitVal, if_pos hb, List.foldl_cons]
  rw [Nat.mul_comm a 10]; exact this
theorem X4 {l : As} (h : l.all Ef = true) (h1 : 1 ≤ l.length) : Lib.decNat l = some (Dw l) := by
 unfold Lib.decNat
 rw [if_neg (by cases l <;> simp at h1 ⊢)]
 exact P8 l 0 h
theorem Aby {s : As} (h : Bt s = true) : Lib.atoi s = some (Du s) := by
 unfold Du
 split
 ·rename_i h0; subst h0; rfl
 ·rename_i h0
  simp only [Bt, h0, decide_false, Bool.false_or, Bool.and_eq_true, decide_eq_true_eq] at h
  have h1 := X4 h.1.2 h.1.1.1
  cases s with
  | nil => simp [C6] at h
  | cons b r =>
   simp only [List.getD_cons_zero] at *
   by_cases h45 : b.toNat = 45
   ·have hb : (b == 45) = true := by simpa using UInt8.toNat_inj.1 (by rw [h45]; rfl)
    have hu : C6 (b :: r) = r := by unfold C6; simp [h45]
    rw [hu] at h1 ⊢
    simp only [Lib.atoi, hb, if_true, h1, h45]
    simp
   ·have hb : (b == 45) = false := by
     simp only [beq_eq_false_iff_ne]; intro e; exact h45 (by rw [e]; rfl)
    have hu : C6 (b :: r) = b :: r := by unfold C6; simp [h45]
    rw [hu] at h1 h ⊢
    have hd : Ef b = true := by have := h.1.2; simp only [List.all_cons, Bool.and_eq_true] at this; exact this.1
    have h43 : (b == 43) = false := by
     simp only [beq_eq_false_iff_ne]; intro e; rw [e] at hd; exact absurd hd Ad
    simp only [Lib.atoi, hb, h43, Bool.false_eq_true, if_false, h1, h45]
    simp
theorem Rb (s : As) (hs : Bt s = true) (I : Heap) (L : Bh) : Fun Tryz.prog 64 [.string (str s)] I L (Ee (.int .i64 (Du s)) I L) := by
 have hat : Fun Tryz.prog 113 [.string (str s)] I L (Ee (.tuple #[.int .i64 (Du s), .nilIface]) I L) := by
  refine ⟨fun w hm => (Any.strconv_Atoi Aer (str s) (Du s) ?_ ?_ w).mono ?_⟩
  ·have := Jt hs
   show s.toArray.size ≤ 18
   simp; omega
  ·show Lib.atoi (s.toArray.toList) = _
   exact Aby hs
  ·rintro e w' ⟨rfl, t, rfl⟩
   exact ⟨_, I, L, rfl, .refl _, Mem.frozenAt (hm.alloc _), rfl, rfl, rfl⟩
 refine Al Af ?_; refine Se rfl (Oa rfl (Ab (Se rfl (Om rfl ?_)))); refine Cv rfl .free rfl hat ?_; rintro _ _ _ _ ⟨rfl, rfl, rfl⟩; refine Om rfl (Oe rfl rfl (Oe rfl rfl (Oa rfl (Oa rfl (Ab (Se rfl (Om rfl (Oa rfl (Ab (Ai (.tmp rfl .nil) ?_)))))))))); refine only rfl ?_
 simp [C2, *]
section
variable {P : Program} {f : FuncId} {n : Nat} {I₀ : Heap} {Q : C3} {k : List Item} {E : Hw} {I : Heap} {L : Bh} {ops : Array Oper} {d : Nat} {ty : TypeId} {pos : String} {af : Array Edge} {g : Option (Nat × Bool)} {l : List Oper}
theorem Va {T T' : TypeId} {x y : Operand} {a : Int} {b : Nat} (hx : Cf E x = some (.int .i64 a)) (hy : Cf E y = some (.int .i64 (b : Nat))) (hb : 0 < b) (hg : Wants ops E g) (hdn : Nat.blt d n = true)
  (h : A6 P f n I₀ Q ops l k ((d, .int .i64 (a.tmod (b : Nat))) :: E) I L) : A6 P f n I₀ Q ops (⟨some d, .binOp .rem T x y T', ty, pos, af, g⟩ :: l) k E I L := D7 (fun ac w he _ => by
 simp only [execOp, he.eval hx, he.eval hy]
 refine Ag (a := _) (w' := w) ?_ |>.trans rfl
 rw [Ag (Fe w)]
 have h0 : ¬ ((b : Int) = 0) := by omega
 simp only [binOp, Op.intDiv, if_neg h0, ne_eq, not_true_eq_false, if_false]; rfl) hg hdn h
end
theorem Qw (a : Int) : -1000 < a.tmod 1000 ∧ a.tmod 1000 < 1000 := by
 have h1 := Int.lt_tmod_of_pos a (b := 1000) Ad
 have h2 := Int.tmod_lt_of_pos a (b := 1000) Ad
 omega
theorem Ut (n : Int) (h0 : -2000000 ≤ n) (h1 : n ≤ 2000000) (I : Heap) (L : Bh) : Fun Tryz.prog 159 [.int .i64 n] I L (Ee (.int .i64 (K3 n)) I L) := by
 have hb := Qw (n + 500)
 have hb2 := Qw ((n + 500).tmod 1000 + 1000)
 refine Al Af ?_; refine Se rfl (Oa rfl (Ab (Se rfl (Om rfl ?_)))); refine Or rfl rfl rfl ?_; refine Va (b := 1000) rfl rfl Ad .free rfl ?_; refine Kp (a := (n + 500).tmod 1000) rfl rfl rfl Aa .free rfl ?_; refine Va (a := (n + 500).tmod 1000 + 1000) (b := 1000) rfl rfl Ad .free rfl ?_; refine Kp (a := ((n + 500).tmod 1000 + 1000).tmod 1000) rfl rfl rfl Aa .free rfl ?_; refine Oa rfl (Ab (Ai (.tmp rfl .nil) ?_)); refine only rfl ?_
 exact congrArg (Value.int .i64) (Tr n)
theorem Ph (n : Int) (h0 : -2000000 ≤ n) (h1 : n ≤ 2000000) (I : Heap) (L : Bh) : Fun Tryz.prog 185 [.int .i64 n] I L (Ee (.int .i64 (K3 n)) I L) := by
 have hb := Qw (n + 500)
 have hb2 := Qw ((n + 500).tmod 1000 + 1000)
 refine Al Af ?_; refine Se rfl (Oa rfl (Ab (Se rfl (Om rfl ?_)))); refine Or rfl rfl rfl ?_; refine Va (b := 1000) rfl rfl Ad .free rfl ?_; refine Kp (a := (n + 500).tmod 1000) rfl rfl rfl Aa .free rfl ?_; refine Va (a := (n + 500).tmod 1000 + 1000) (b := 1000) rfl rfl Ad .free rfl ?_; refine Kp (a := ((n + 500).tmod 1000 + 1000).tmod 1000) rfl rfl rfl Aa .free rfl ?_; refine Oa rfl (Ab (Ai (.tmp rfl .nil) ?_)); refine only rfl ?_
 exact congrArg (Value.int .i64) (Tr n)
theorem Ac9 {x y : Int} (hx : -999 ≤ x ∧ x ≤ 999) (hy : -999 ≤ y ∧ y ≤ 999) : -998001 ≤ x * y ∧ x * y ≤ 998001 := by
 have h1 : (x * y).natAbs ≤ 999 * 999 := by rw [Int.natAbs_mul]; exact Nat.mul_le_mul Aa Aa
 omega
theorem Jy {o : B5} (h : o.txt = [43]) (x y : Int) : o.calc x y = x + y := by
 obtain rfl : o = .add := B5.txt_inj (o' := .add) h
 rfl
theorem J6 {o : B5} (h : o.txt = [45]) (x y : Int) : o.calc x y = x - y := by
 obtain rfl : o = .sub := B5.txt_inj (o' := .sub) h
 rfl
theorem Jz {o : B5} (h1 : ¬ o.txt = [43]) (h2 : ¬ o.txt = [45]) (x y : Int) : o.calc x y = x * y := by
 cases o with
 | add => exact absurd rfl h1
 | sub => exact absurd rfl h2
 | _ => rfl
theorem Acg {I : Heap} (ht : Tab I) (o : B5) {a b : As} (ha : Bt a = true) (hb : Bt b = true) (L : Bh) : Fun Tryz.prog 115 [.string (str o.txt), .string (str a), .string (str b)] I L (Ee (.string (str (Pw o a b))) I L) := by
 have xa := Jw ha
 have xb := Jw hb
 have hm := Ac9 xa xb
 refine Al Af ?_; refine Se rfl (Oa rfl (Ab (Se rfl (Om rfl ?_)))); refine Ca rfl (Rb a ha _ _) ?_; rintro _ _ _ _ ⟨rfl, rfl, rfl⟩; refine Om rfl ?_; refine Ca rfl (Rb b hb _ _) ?_; rintro _ _ _ _ ⟨rfl, rfl, rfl⟩; refine Oa rfl (Oa rfl (Ab (Ah (Se rfl (Om rfl (Ab (Ar (Se rfl (Od rfl rfl rfl (Oa rfl (Ab ?_))))))))))); refine Av rfl ?_ ?_
 ·intro c0
  try simp only [nb] at c0
  refine Ao rfl (Om rfl (Om rfl ?_)); refine Or rfl rfl rfl ?_; refine Oa rfl (Ab (Aq (Se rfl (Om rfl ?_)))); refine Ca rfl (Ut _ Aa Aa _ _) ?_; rintro _ _ _ _ ⟨rfl, rfl, rfl⟩; refine Ca rfl (Jh ht _ K4 K4 _) ?_; rintro _ _ _ _ ⟨rfl, rfl, rfl⟩; refine Oa rfl (Ab (Ai (.tmp rfl .nil) ?_)); refine only rfl ?_
  unfold Pw
  first
   | (rw [Jy c0]; done)
   | (rw [J6 c1]; done)
   | (rw [Jz c0 c1]; done)
   | (rw [Jy c0]; rfl)
   | (rw [J6 c1]; rfl)
   | (rw [Jz c0 c1]; rfl)
 intro c0
 try simp only [nb] at c0
 refine Se rfl (Od rfl rfl rfl (Oa rfl (Ab ?_))); refine Av rfl ?_ ?_
 ·intro c1
  try simp only [nb] at c1
  refine Ao rfl (Om rfl (Om rfl ?_)); refine Or rfl rfl rfl ?_; refine Oa rfl (Ab (Aq (Se rfl (Om rfl ?_)))); refine Ca rfl (Ut _ Aa Aa _ _) ?_; rintro _ _ _ _ ⟨rfl, rfl, rfl⟩; refine Ca rfl (Jh ht _ K4 K4 _) ?_; rintro _ _ _ _ ⟨rfl, rfl, rfl⟩; refine Oa rfl (Ab (Ai (.tmp rfl .nil) ?_)); refine only rfl ?_
  unfold Pw
  first
   | (rw [Jy c0]; done)
   | (rw [J6 c1]; done)
   | (rw [Jz c0 c1]; done)
   | (rw [Jy c0]; rfl)
   | (rw [J6 c1]; rfl)
   | (rw [Jz c0 c1]; rfl)
 intro c1
 try simp only [nb] at c1
 refine Ao rfl (Om rfl (Om rfl ?_)); refine Or rfl rfl rfl ?_; refine Oa rfl (Ab (Aq (Se rfl (Om rfl ?_)))); refine Ca rfl (Ut _ Aa Aa _ _) ?_; rintro _ _ _ _ ⟨rfl, rfl, rfl⟩; refine Ca rfl (Jh ht _ K4 K4 _) ?_; rintro _ _ _ _ ⟨rfl, rfl, rfl⟩; refine Oa rfl (Ab (Ai (.tmp rfl .nil) ?_)); refine only rfl ?_
 unfold Pw
 first
  | (rw [Jy c0]; done)
  | (rw [J6 c1]; done)
  | (rw [Jz c0 c1]; done)
  | (rw [Jy c0]; rfl)
  | (rw [J6 c1]; rfl)
  | (rw [Jz c0 c1]; rfl)
theorem Aao (o : B5) (x y : Int) (hx : -999 ≤ x ∧ x ≤ 999) (hy : -999 ≤ y ∧ y ≤ 999) (I : Heap) (L : Bh) : Fun Tryz.prog 151 [.string (str o.txt), .int .i64 x, .int .i64 y] I L (Ee (.int .i64 (K3 (o.calc x y))) I L) := by
 have hm := Ac9 hx hy
 refine Al Af ?_; refine Se rfl (Oa rfl (Ab (Ah (Se rfl (Om rfl (Ab (Ar (Se rfl (Od rfl rfl rfl (Oa rfl (Ab ?_))))))))))); refine Av rfl ?_ ?_
 ·intro c0
  try simp only [nb] at c0
  refine Se rfl (Om rfl (Om rfl ?_)); refine Or rfl rfl rfl ?_; refine Ca rfl (Ph _ Aa Aa _ _) ?_; rintro _ _ _ _ ⟨rfl, rfl, rfl⟩; refine Oa rfl (Ab (Ai (.tmp rfl .nil) ?_)); refine only rfl ?_; rw [Jy c0]; rfl
 intro c0
 try simp only [nb] at c0
 refine Se rfl (Od rfl rfl rfl (Oa rfl (Ab ?_))); refine Av rfl ?_ ?_
 ·intro c1
  try simp only [nb] at c1
  refine Se rfl (Om rfl (Om rfl ?_)); refine Or rfl rfl rfl ?_; refine Ca rfl (Ph _ Aa Aa _ _) ?_; rintro _ _ _ _ ⟨rfl, rfl, rfl⟩; refine Oa rfl (Ab (Ai (.tmp rfl .nil) ?_)); refine only rfl ?_; rw [J6 c1]; rfl
 intro c1
 try simp only [nb] at c1
 refine Aj (Aq (Se rfl (Om rfl (Om rfl ?_)))); refine Or rfl rfl rfl ?_; refine Ca rfl (Ph _ Aa Aa _ _) ?_; rintro _ _ _ _ ⟨rfl, rfl, rfl⟩; refine Oa rfl (Ab (Ai (.tmp rfl .nil) ?_)); refine only rfl ?_; rw [Jz c0 c1]; rfl
def evT (t : Tree) : List Nat := if t.head = Hl then [1] else if t.head = D5 then [2] else if t.head = Ea then [] else Cl t
theorem Gc {I : Heap} {t : Tree} {cs : List Value} (h : Rep I t cs) (L : Bh) : Fun Tryz.prog 85 [.agg cs.toArray] I L (KD (evT t) L) := by
 obtain ⟨oa, c, vs, rfl, hrl, hs, hn, hc, ha, hp⟩ := h.open; refine Al Af ?_; refine Se rfl ?_; refine Cc rfl rfl .free rfl ?_; intro b1; refine Oa rfl (Ab (Ah (Se rfl ?_))); refine Bq rfl .free rfl ?_; refine Ca rfl (Cj h _) ?_; rintro _ _ _ _ ⟨rfl, rfl, rfl⟩; refine Ab (Ar (Se rfl (Od rfl rfl rfl (Oa rfl (Ab ?_))))); refine Av rfl ?_ ?_
 ·intro c0
  try simp only [nb] at c0
  refine Se rfl ?_; refine Ol rfl rfl ?_; intro b7; refine Oa rfl (Ab ?_); refine Bv ?_; intro hz; refine Ai (.tmp rfl .nil) ?_; refine ⟨_, L, hz, fun _ h => h.drop, Gz (l := [1]) ?_⟩
  unfold evT Hl D5 Ea; rw [if_pos c0]
 intro c0
 try simp only [nb] at c0
 refine Se rfl (Od rfl rfl rfl (Oa rfl (Ab ?_))); refine Av rfl ?_ ?_
 ·intro c1
  try simp only [nb] at c1
  refine Se rfl ?_; refine Ol rfl rfl ?_; intro b10; refine Oa rfl (Ab ?_); refine Bv ?_; intro hz; refine Ai (.tmp rfl .nil) ?_; refine ⟨_, L, hz, fun _ h => h.drop, Gz (l := [2]) ?_⟩
  unfold evT Hl D5 Ea; rw [if_neg c0, if_pos c1]
 intro c1
 try simp only [nb] at c1
 refine Se rfl (Od rfl rfl rfl (Oa rfl (Ab ?_))); refine Av rfl ?_ ?_
 ·intro c2
  try simp only [nb] at c2
  refine Se rfl (Oa rfl (Ab (Ai (.tmp rfl .nil) ?_)))
  have hk : evT t = [] := by unfold evT Hl D5 Ea; rw [if_neg c0, if_neg c1, if_pos c2]
  exact ⟨I, L, .refl _, fun _ h => h.drop, none, 0, by rw [hk]; rfl, ⟨by simp, fun _ => hk, by rw [hk]; simp⟩, rfl⟩
 intro c2
 try simp only [nb] at c2
 refine Aj (Aq (Se rfl ?_)); refine Bq rfl .free rfl ?_; refine Ca rfl (Gg h _) ?_; rintro _ J _ e1 ⟨o1, k1, rfl, hk, rfl⟩; refine Oa rfl (Ab (Ai (.tmp rfl .nil) ?_))
 have hke : evT t = Cl t := by unfold evT Hl D5 Ea; rw [if_neg c0, if_neg c1, if_neg c2]
 exact ⟨J, L, e1, fun _ h => h.drop, o1, k1, by rw [hke]; rfl, by rw [hke]; exact hk, rfl⟩
def eag (h : As) : List Nat := if h = Hl ∨ h = Fn ∨ h = Fo then [1] else if h = D5 then [2] else if h = Ea then [] else [1, 2]
theorem Mt (s : As) (I : Heap) (L : Bh) : Fun Tryz.prog 99 [.string (str s)] I L (KD (eag s) L) := by
 refine Al Af ?_; refine Se rfl (Oa rfl (Ab (Ah (Se rfl (Om rfl (Ab (Ar (Ah (Se rfl (Od rfl rfl rfl (Oa rfl (Ab ?_)))))))))))); refine Av rfl ?_ ?_
 ·intro c0
  try simp only [nb] at c0
  refine Aj ?_
  first | refine St rfl (by first | assumption | omega) ?_ | refine Bs Am ?_
  refine Se rfl ?_; refine Ol rfl rfl ?_; intro b8; refine Oa rfl (Ab ?_); refine Bv ?_; intro hz; refine Ai (.tmp rfl .nil) ?_; refine ⟨_, L, hz, fun _ h => h, Gz (l := [1]) ?_⟩
  unfold eag Hl Fn Fo
  simp [*]
 intro c0
 try simp only [nb] at c0
 refine Se rfl (Od rfl rfl rfl (Oa rfl (Ab ?_))); refine Av rfl ?_ ?_
 ·intro c1
  try simp only [nb] at c1
  refine Aj ?_
  first | refine St rfl (by first | assumption | omega) ?_ | refine Bs Am ?_
  refine Se rfl ?_; refine Ol rfl rfl ?_; intro b8; refine Oa rfl (Ab ?_); refine Bv ?_; intro hz; refine Ai (.tmp rfl .nil) ?_; refine ⟨_, L, hz, fun _ h => h, Gz (l := [1]) ?_⟩
  unfold eag Hl Fn Fo
  simp [*]
 intro c1
 try simp only [nb] at c1
 refine Ao rfl (Od rfl rfl rfl (Oa rfl (Ab ?_))); refine Av rfl ?_ ?_
 ·intro c2
  try simp only [nb] at c2
  refine Se rfl ?_; refine Ol rfl rfl ?_; intro b8; refine Oa rfl (Ab ?_); refine Bv ?_; intro hz; refine Ai (.tmp rfl .nil) ?_; refine ⟨_, L, hz, fun _ h => h, Gz (l := [1]) ?_⟩
  unfold eag Hl Fn Fo
  simp [*]
 intro c2
 try simp only [nb] at c2
 refine Se rfl (Od rfl rfl rfl (Oa rfl (Ab ?_))); refine Av rfl ?_ ?_
 ·intro c3
  try simp only [nb] at c3
  refine Se rfl ?_; refine Ol rfl rfl ?_; intro b11; refine Oa rfl (Ab ?_); refine Bv ?_; intro hz; refine Ai (.tmp rfl .nil) ?_; refine ⟨_, L, hz, fun _ h => h, Gz (l := [2]) ?_⟩
  unfold eag Hl Fn Fo D5
  simp [*]
 intro c3
 try simp only [nb] at c3
 refine Se rfl (Od rfl rfl rfl (Oa rfl (Ab ?_))); refine Av rfl ?_ ?_
 ·intro c4
  try simp only [nb] at c4
  refine Se rfl ?_; refine D9 .free rfl ?_; intro b14; refine Oa rfl (Ab ?_); refine Bv ?_; intro hz; refine Ai (.tmp rfl .nil) ?_; refine ⟨_, L, hz, fun _ h => h, Gz (l := []) ?_⟩
  unfold eag Hl Fn Fo D5 Ea
  simp [*]
 intro c4
 try simp only [nb] at c4
 refine Aj (Aq (Se rfl ?_)); refine Ol rfl rfl ?_; intro b15; refine Oa rfl (Ab ?_); refine Bv ?_; intro hz; refine Ai (.tmp rfl .nil) ?_; refine ⟨_, L, hz, fun _ h => h, Gz (l := [1, 2]) ?_⟩
 unfold eag Hl Fn Fo D5 Ea
 simp [*]
theorem Acq {I : Heap} (n : Int) {t u : Tree} {cs ds : List Value} (h : Rep I t cs) (h' : Rep I u ds) (L : Bh) : Fun Tryz.prog 150 [.int .i64 n, .agg cs.toArray, .agg ds.toArray] I L (RP (if n = 0 then t else u) L) := by
 obtain ⟨oa, c, _, rfl, -⟩ := h.open; obtain ⟨ob, c', _, rfl, -⟩ := h'.open; refine Al Af ?_; refine Se rfl ?_; refine Cc rfl rfl .free rfl ?_; intro b4; refine Cc rfl rfl .free rfl ?_; intro b5; refine A3 .free rfl ?_; intro b6; refine Ab (Ah (Se rfl (Om rfl (Oc rfl rfl rfl (Ab ?_))))); refine Av rfl ?_ ?_
 ·intro c0
  try simp only [nb] at c0
  refine Se rfl ?_; refine Bq rfl .free rfl ?_; refine Bu rfl rfl rfl rfl .free ?_; refine Ab ?_; refine Ai (.c rfl .nil) ?_
  exact ⟨I, L, .refl _, Bj, _, rfl, by rw [if_pos c0]; exact h, rfl⟩
 intro c0
 try simp only [nb] at c0
 refine Aj (Se rfl ?_); refine Bq rfl .free rfl ?_; refine Bu rfl rfl rfl rfl .free ?_; refine Ab ?_; refine Ai (.c rfl .nil) ?_
 exact ⟨I, L, .refl _, Bj, _, rfl, by rw [if_neg c0]; exact h', rfl⟩
theorem Wt (n : Int) (h0 : -1000000 ≤ n) (h1 : n ≤ 1000000) (I : Heap) (L : Bh) : Fun Tryz.prog 101 [.int .i64 n] I L (Ee (.string (str (Oq n))) I L) := by
 by_cases hn : n < 0
 ·have hd := Uh (n := n.natAbs) Aa
  refine Al Af ?_; refine Se rfl (Oa rfl (Ab (Ah (Se rfl (Om rfl (Oc rfl rfl rfl (Ab ?_)))))))
  first | refine Sf rfl Aa ?_ | refine Ay Am ?_
  refine Aj (Ah (Se rfl (Om rfl (Oc rfl rfl rfl (Ab ?_)))))
  first | refine Sr rfl (hn) ?_ | refine Sq rfl (hn) ?_ | refine Bs Am ?_
  refine Se rfl (Om rfl ?_); refine Agq rfl Aa .free rfl ?_; refine Df (t := 8) (v' := .int .i64 (n.natAbs : Nat)) rfl Ed ?_; refine Ca rfl (Uw _ n.natAbs (Nat.lt_succ_self _) Aa _ _) ?_; rintro _ _ _ _ ⟨rfl, rfl, rfl⟩; refine Ok rfl rfl ?_; refine Oa rfl (Ab (Ai (.tmp rfl .nil) ?_)); refine only rfl ?_
  unfold Oq; rw [if_pos hn]; rfl
 ·obtain ⟨m, rfl⟩ : ∃ m : Nat, n = (m : Nat) := ⟨n.toNat, by omega⟩; rw [Rn]
  exact Uw _ m (Nat.lt_succ_self _) Aa I L
mutual
inductive KV where
 | num (s : As)
 | pair (a b : KV)
 | clo (f x : As) (s t : Ty) (b : Ex) (r : KE)
inductive KE where
 | nil
 | cons (n : As) (v : KV) (up : KE)
end
def KE.look : KE → As → Option KV
 | .nil, _ => none
 | .cons m v up, n => if m = n then some v else up.look n
structure Res where
 v : Option KV
 left : Nat
 stuck : Bool
def B5.act : B5 → KV → KV → Option KV
 | .pair, u, w => some (.pair u w)
 | .call, _, _ => none
 | o, .num a, .num b => some (.num (Pw o a b))
 | _, _, _ => none
def U2.act : U2 → KV → Option KV
 | .fst, .pair a _ => some a
 | .snd, .pair _ b => some b
 | _, _ => none
def Res.of (o : Option KV) (n : Nat) : Res := ⟨o, n, o.isNone⟩
def ev : Nat → Nat → Ex → KE → Res
 | 0, _, _, _ => ⟨none, 0, false⟩
 | _ + 1, 0, _, _ => ⟨none, 0, false⟩
 | _ + 1, n + 1, .num s, _ => ⟨some (.num s), n, false⟩
 | _ + 1, n + 1, .name s, k => ⟨k.look s, n, false⟩
 | _ + 1, n + 1, .fn f x s t b, k => ⟨some (.clo f x s t b k), n, false⟩
 | N + 1, n + 1, .bin o a b, k =>
  match (ev N n a k).v with
  | none => ev N n a k
  | some u => match (ev N (ev N n a k).left b k).v with
   | none => ev N (ev N n a k).left b k
   | some w => match o, u with
    | .call, .clo f x s t c r => ev N (ev N (ev N n a k).left b k).left c (.cons x w (.cons f (.clo f x s t c r) r))
    | o, u => .of (o.act u w) (ev N (ev N n a k).left b k).left
 | N + 1, n + 1, .ite a b c, k =>
  match (ev N n a k).v with
  | none => ev N n a k
  | some (.num s) => ev N (ev N n a k).left (if s = [48] then b else c) k
  | some _ => ⟨none, (ev N n a k).left, true⟩
 | N + 1, n + 1, .lt x a b, k =>
  match (ev N n a k).v with
  | none => ev N n a k
  | some u => ev N (ev N n a k).left b (.cons x u k)
 | N + 1, n + 1, .un o a, k =>
  match (ev N n a k).v with
  | none => ev N n a k
  | some u => .of (o.act u) (ev N n a k).left
theorem Ul : ∀ (N n : Nat) (e : Ex) (k : KE), (ev N n e k).left ≤ n := by
 intro N
 induction N with
 | zero => intro n e k; exact Nat.zero_le _
 | succ N ih =>
  intro n e k
  cases n with
  | zero => exact Nat.zero_le _
  | succ n =>
   cases e with
   | num s => exact Nat.le_succ _
   | name s => exact Nat.le_succ _
   | fn f x s t b => exact Nat.le_succ _
   | bin o a b =>
    simp only [ev]
    have h1 := ih n a k
    have h2 := ih (ev N n a k).left b k
    cases hp : (ev N n a k).v with
    | none => simp only; omega
    | some u =>
     simp only
     cases hq : (ev N (ev N n a k).left b k).v with
     | none => simp only; omega
     | some w =>
      simp only
      split
      ·exact Nat.le_trans (ih _ _ _) Aa
      ·simp only [Res.of]; omega
   | ite a b c =>
    simp only [ev]
    have h1 := ih n a k
    split
    ·omega
    ·exact Nat.le_trans (ih _ _ _) Aa
    ·simp only; omega
   | lt x a b =>
    simp only [ev]
    have h1 := ih n a k
    split
    ·omega
    ·exact Nat.le_trans (ih _ _ _) Aa
   | un o a =>
    simp only [ev]
    have h1 := ih n a k
    split
    ·omega
    ·simp only [Res.of]; omega
theorem Ad7 : ∀ (N n : Nat) (e : Ex) (k : KE), n < N → ev (N + 1) n e k = ev N n e k := by
 intro N
 induction N with
 | zero => intro n e k h; omega
 | succ N ih =>
  intro n e k h
  cases n with
  | zero => rfl
  | succ n =>
   have key : ∀ m e k, m ≤ n → ev (N + 1) m e k = ev N m e k := fun m e k hm => ih m e k Aa
   have l1 := fun e k => Ul N n e k
   cases e with
   | num s => rfl
   | name s => rfl
   | fn f x s t b => rfl
   | bin o a b =>
    have l2 := Ul N (ev N n a k).left b k
    have l3 := l1 a k
    rw [ev, ev, key n a k (Nat.le_refl _), key _ b k l3]
    cases (ev N n a k).v with
    | none => rfl
    | some u =>
     simp only
     cases (ev N (ev N n a k).left b k).v with
     | none => rfl
     | some w =>
      simp only
      split
      ·exact key _ _ _ Aa
      ·rfl
   | ite a b c =>
    have l3 := l1 a k
    rw [ev, ev, key n a k (Nat.le_refl _)]
    split
    ·rfl
    ·exact key _ _ _ l3
    ·rfl
   | lt x a b =>
    have l3 := l1 a k
    rw [ev, ev, key n a k (Nat.le_refl _)]
    split
    ·rfl
    ·exact key _ _ _ l3
   | un o a =>
    rw [ev, ev, key n a k (Nat.le_refl _)]
theorem Uk {N n : Nat} (h : n < N) (e : Ex) (k : KE) : ev N n e k = ev (n + 1) n e k := by
 induction N with
 | zero => omega
 | succ N ih =>
  rcases Nat.lt_or_ge n N with g | g
  ·rw [Ad7 N n e k g]; exact ih g
  ·rw [show N = n by omega]
def eval (n : Nat) (e : Ex) (k : KE) : Res := ev (n + 1) n e k
theorem B7 (n : Nat) (e : Ex) (k : KE) : (eval n e k).left ≤ n := Ul _ _ _ _
theorem Is (e : Ex) (k : KE) : eval 0 e k = ⟨none, 0, false⟩ := rfl
theorem Kc (n : Nat) (s : As) (k : KE) : eval (n + 1) (.num s) k = ⟨some (.num s), n, false⟩ := rfl
theorem Ir (n : Nat) (s : As) (k : KE) : eval (n + 1) (.name s) k = ⟨k.look s, n, false⟩ := rfl
theorem Lg (n : Nat) (f x : As) (s t : Ty) (b : Ex) (k : KE) : eval (n + 1) (.fn f x s t b) k = ⟨some (.clo f x s t b k), n, false⟩ := rfl
theorem G4 (n : Nat) (o : B5) (a b : Ex) (k : KE) : eval (n + 1) (.bin o a b) k =
  match (eval n a k).v with
  | none => eval n a k
  | some u => match (eval (eval n a k).left b k).v with
   | none => eval (eval n a k).left b k
   | some w => match o, u with
    | .call, .clo f x s t c r => eval (eval (eval n a k).left b k).left c (.cons x w (.cons f (.clo f x s t c r) r))
    | o, u => .of (o.act u w) (eval (eval n a k).left b k).left := by
 have h1 := B7 n a k
 have h2 := B7 (eval n a k).left b k
 show ev (n + 1 + 1) (n + 1) (.bin o a b) k = _
 rw [ev]
 have e1 : ev (n + 1) n a k = eval n a k := rfl
 have e2 : ev (n + 1) (eval n a k).left b k = eval (eval n a k).left b k := Uk Aa _ _
 rw [e1, e2]
 cases (eval n a k).v with
 | none => rfl
 | some u =>
  simp only
  cases (eval (eval n a k).left b k).v with
  | none => rfl
  | some w =>
   simp only
   split
   ·exact Uk Aa _ _
   ·rfl
theorem Ht (n : Nat) (a b c : Ex) (k : KE) : eval (n + 1) (.ite a b c) k =
  match (eval n a k).v with
  | none => eval n a k
  | some (.num s) => eval (eval n a k).left (if s = [48] then b else c) k
  | some _ => ⟨none, (eval n a k).left, true⟩ := by
 have h1 := B7 n a k
 show ev (n + 1 + 1) (n + 1) (.ite a b c) k = _
 rw [ev]
 have e1 : ev (n + 1) n a k = eval n a k := rfl
 rw [e1]
 split
 ·rfl
 ·exact Uk Aa _ _
 ·rfl
theorem I4 (n : Nat) (x : As) (a b : Ex) (k : KE) : eval (n + 1) (.lt x a b) k =
  match (eval n a k).v with
  | none => eval n a k
  | some u => eval (eval n a k).left b (.cons x u k) := by
 have h1 := B7 n a k
 show ev (n + 1 + 1) (n + 1) (.lt x a b) k = _
 rw [ev]
 have e1 : ev (n + 1) n a k = eval n a k := rfl
 rw [e1]
 split
 ·rfl
 ·exact Uk Aa _ _
theorem I5 (n : Nat) (o : U2) (a : Ex) (k : KE) : eval (n + 1) (.un o a) k =
  match (eval n a k).v with
  | none => eval n a k
  | some u => .of (o.act u) (eval n a k).left := rfl
mutual
def KV.ex : KV → Ex
 | .num s => .num s
 | .pair a b => .bin .pair a.ex b.ex
 | .clo f x s t b r => .fn f x s t (r.cl [f, x] b)
def KE.cl : KE → List As → Ex → Ex
 | .nil, _, e => e
 | .cons n v up, bd, e => up.cl bd (e.putIf n v.ex bd)
end
def KE.dom : KE → List As
 | .nil => []
 | .cons n _ up => n :: up.dom
mutual
def KV.wf : KV → Prop
 | .num s => Bt s = true
 | .pair a b => a.wf ∧ b.wf
 | .clo f x s t b r => r.wf ∧ (Ex.fn f x s t b).ok = true ∧ ∀ y ∈ b.occ [], y ∈ [f, x] ∨ y ∈ r.dom
def KE.wf : KE → Prop
 | .nil => True
 | .cons n v up => Bn n = true ∧ v.wf ∧ up.wf
end
theorem Abb (s n : As) (v : Ex) (a : List As) : (Ex.num s).putIf n v a = .num s := by unfold Ex.putIf; split <;> rfl
theorem Ab6 : ∀ (r : KE) (bd : List As) (s : As), r.cl bd (.num s) = .num s
 | .nil, _, _ => rfl
 | .cons n v up, bd, s => by rw [KE.cl, Abb]; exact Ab6 up bd s
theorem Ab4 : ∀ (r : KE) (bd : List As) (o : B5) (a b : Ex), r.cl bd (.bin o a b) = .bin o (r.cl bd a) (r.cl bd b)
 | .nil, _, _, _, _ => rfl
 | .cons n v up, bd, o, a, b => by rw [KE.cl, Tm]; exact Ab4 up bd o _ _
theorem Ab5 : ∀ (r : KE) (bd : List As) (a b c : Ex), r.cl bd (.ite a b c) = .ite (r.cl bd a) (r.cl bd b) (r.cl bd c)
 | .nil, _, _, _, _ => rfl
 | .cons n v up, bd, a, b, c => by rw [KE.cl, Tn]; exact Ab5 up bd _ _ _
theorem Ae7 : ∀ (r : KE) (bd : List As) (o : U2) (a : Ex), r.cl bd (.un o a) = .un o (r.cl bd a)
 | .nil, _, _, _ => rfl
 | .cons n v up, bd, o, a => by rw [KE.cl, Xd]; exact Ae7 up bd o _
theorem Ae6 : ∀ (r : KE) (bd : List As) (x : As) (a b : Ex), r.cl bd (.lt x a b) = .lt x (r.cl bd a) (r.cl (bd ++ [x]) b)
 | .nil, _, _, _, _ => rfl
 | .cons n v up, bd, x, a, b => by rw [KE.cl, Xc]; exact Ae6 up bd x _ _
theorem Ae5 : ∀ (r : KE) (bd : List As) (f x : As) (s t : Ty) (b : Ex), r.cl bd (.fn f x s t b) = .fn f x s t (r.cl (bd ++ [f, x]) b)
 | .nil, _, _, _, _, _, _ => rfl
 | .cons n v up, bd, f, x, s, t, b => by rw [KE.cl, Xb]; exact Ae5 up bd f x s t _
theorem G8 {n x : As} {v w : Ex} (hv : v.occ [] = []) (hw : w.occ [] = []) (h : n ≠ x) : ∀ e : Ex, (e.put n v).put x w = (e.put x w).put n v
 | .num _ => rfl
 | .name s => by
  simp only [Ex.put]
  by_cases h1 : s = n
  ·have h2 : ¬ s = x := fun e => h (h1.symm.trans e)
   simp only [h1, if_true, if_neg h, Ex.put]
   rw [Ex.put_id (by rw [hv]; simp)]
  ·by_cases h2 : s = x
   ·simp only [h2, if_true, if_neg (Ne.symm h), Ex.put]
    rw [Ex.put_id (by rw [hw]; simp)]
   ·simp only [h1, h2, if_false, Ex.put]
 | .bin o a b => by simp only [Ex.put, G8 hv hw h a, G8 hv hw h b]
 | .ite a b c => by simp only [Ex.put, G8 hv hw h a, G8 hv hw h b, G8 hv hw h c]
 | .lt y a b => by
  simp only [Ex.put, G8 hv hw h a]
  by_cases h1 : y = n
  ·by_cases h2 : y = x
   ·simp only [h1, h2, if_true]
   ·simp only [h1, if_true]
  ·by_cases h2 : y = x
   ·simp only [h2, if_true]
   ·simp only [h1, h2, if_false, G8 hv hw h b]
 | .fn f y s t b => by
  simp only [Ex.put]
  by_cases h1 : f = n ∨ y = n
  ·by_cases h2 : f = x ∨ y = x
   ·simp only [if_pos h1, if_pos h2]
   ·simp only [if_pos h1, if_neg h2]
  ·by_cases h2 : f = x ∨ y = x
   ·simp only [if_pos h2, if_neg h1]
   ·simp only [if_neg h1, if_neg h2, G8 hv hw h b]
 | .un o a => by simp only [Ex.put, G8 hv hw h a]
theorem Vj {e : Ex} (h : e.occ [] = []) (n : As) (v : Ex) (bd : List As) : e.putIf n v bd = e := by
 unfold Ex.putIf
 split
 ·rfl
 ·exact Ex.put_id (by rw [h]; simp)
theorem Sw : ∀ (r : KE) (bd : List As) {e : Ex}, e.occ [] = [] → r.cl bd e = e
 | .nil, _, _, _ => rfl
 | .cons n v up, bd, e, h => by rw [KE.cl, Vj h]; exact Sw up bd h
theorem V3 : ∀ (r : KE) {bd bd' : List As} (_ : ∀ n, n ∈ bd ↔ n ∈ bd') (e : Ex), r.cl bd e = r.cl bd' e
 | .nil, _, _, _, _ => rfl
 | .cons n v up, bd, bd', h, e => by
  rw [KE.cl, KE.cl]
  have : e.putIf n v.ex bd = e.putIf n v.ex bd' := by
   by_cases hn : n ∈ bd
   ·rw [Kg hn, Kg ((h n).1 hn)]
   ·rw [Fd hn, Fd (fun h' => hn ((h n).2 h'))]
  rw [this]; exact V3 up h _
mutual
theorem KV.closed : ∀ {v : KV}, v.wf → v.ex.occ [] = [] ∧ v.ex.value = true ∧ v.ex.ok = true
 | .num s, h => ⟨rfl, rfl, h⟩
 | .pair a b, h => by
  have h1 := KV.closed h.1
  have h2 := KV.closed h.2
  exact ⟨by simp only [KV.ex, Ex.occ, h1.1, h2.1, List.append_nil], by simp only [KV.ex, Ex.value, h1.2.1, h2.2.1, Bool.and_self], by simp only [KV.ex, Ex.ok, h1.2.2, h2.2.2, Bool.and_self]⟩
 | .clo f x s t b r, h => by
  have hok := h.2.1
  simp only [Ex.ok, Bool.and_eq_true] at hok
  obtain ⟨h1, h2⟩ := KE.closed h.1 [f, x] b hok.2; refine ⟨?_, rfl, ?_⟩
  ·show (r.cl [f, x] b).occ ([] ++ [f, x]) = []
   rw [Rv]; intro y hy; obtain ⟨hy1, hy2⟩ := h1 y hy
   rcases h.2.2 y hy1 with h3 | h3
   ·exact h3
   ·rcases hy2 with h4 | h4
    ·exact h4
    ·exact absurd h3 h4
  ·simp only [KV.ex, Ex.ok, Bool.and_eq_true]
   exact ⟨hok.1, h2⟩
theorem KE.closed : ∀ {r : KE}, r.wf → ∀ (bd : List As) (e : Ex), e.ok = true → (∀ y ∈ (r.cl bd e).occ [], y ∈ e.occ [] ∧ (y ∈ bd ∨ y ∉ r.dom)) ∧ (r.cl bd e).ok = true
 | .nil, _, bd, e, he => ⟨fun y hy => ⟨hy, .inr (by simp [KE.dom])⟩, he⟩
 | .cons n v up, h, bd, e, he => by
  have hv := KV.closed h.2.1
  have hok : (e.putIf n v.ex bd).ok = true := by
   unfold Ex.putIf
   split
   ·exact he
   ·exact Ex.put_ok he hv.2.2
  obtain ⟨h1, h2⟩ := KE.closed h.2.2 bd (e.putIf n v.ex bd) hok; refine ⟨fun y hy => ?_, h2⟩; obtain ⟨h3, h4⟩ := h1 y hy
  by_cases hn : n ∈ bd
  ·rw [Kg hn] at h3; refine ⟨h3, ?_⟩
   rcases h4 with h4 | h4
   ·exact .inl h4
   ·by_cases hyn : y = n
    ·exact .inl (hyn ▸ hn)
    ·exact .inr (by simp only [KE.dom, List.mem_cons, not_or]; exact ⟨hyn, h4⟩)
  ·rw [Fd hn] at h3; obtain ⟨h5, h6⟩ := (Ex.put_occ hv.1).1 h3; refine ⟨h5, ?_⟩
   rcases h4 with h4 | h4
   ·exact .inl h4
   ·exact .inr (by simp only [KE.dom, List.mem_cons, not_or]; exact ⟨h6, h4⟩)
end
theorem Pa : ∀ {r : KE} (_ : r.wf) {bd : List As} {x : As} {w : Ex} (_ : w.occ [] = []) (_ : x ∉ bd) (e : Ex), r.cl bd (e.put x w) = (r.cl (bd ++ [x]) e).put x w
 | .nil, _, _, _, _, _, _, _ => rfl
 | .cons n v up, h, bd, x, w, hw, hx, e => by
  have hv := (KV.closed h.2.1).1
  rw [KE.cl, KE.cl]
  by_cases hn : n ∈ bd
  ·rw [Kg hn, Kg (show n ∈ bd ++ [x] by simp [hn])]
   exact Pa h.2.2 hw hx e
  ·rw [Fd hn]
   by_cases hnx : n = x
   ·subst hnx; rw [Kg (show n ∈ bd ++ [n] by simp)]; rw [Ex.put_id (e := e.put n w) (by rw [Ex.put_occ hw]; simp)]
    exact Pa h.2.2 hw hx e
   ·rw [Fd (show n ∉ bd ++ [x] by simp [hn, hnx]), G8 hw hv (Ne.symm hnx)]
    exact Pa h.2.2 hw hx _
theorem Zk : ∀ {r : KE} (_ : r.wf) (s : As), (∀ v, r.look s = some v → r.cl [] (.name s) = v.ex ∧ v.wf) ∧ (r.look s = none → s ∉ r.dom)
 | .nil, _, s => ⟨fun v hv => (by cases hv), fun _ => (by simp [KE.dom])⟩
 | .cons n v up, h, s => by
  simp only [KE.look, KE.cl]
  by_cases hn : n = s
  ·subst hn; refine ⟨fun u hu => ?_, fun hu => by rw [if_pos rfl] at hu; cases hu⟩; rw [if_pos rfl] at hu; obtain rfl := Option.some.inj hu; rw [Fd (by simp)]
   simp only [Ex.put, if_true]
   exact ⟨Sw up [] (KV.closed h.2.1).1, h.2.1⟩
  ·rw [if_neg hn, Fd (by simp)]
   simp only [Ex.put, if_neg (Ne.symm hn)]
   obtain ⟨h1, h2⟩ := Zk h.2.2 s
   exact ⟨h1, fun hu => by simp only [KE.dom, List.mem_cons, not_or]; exact ⟨Ne.symm hn, h2 hu⟩⟩
inductive Goes : Ex → Ex → Prop
 | refl {e : Ex} : Goes e e
 | next {e d f : Ex} : e.step = some d → Goes d f → Goes e f
theorem Goes.trans {a b c : Ex} (h : Goes a b) (h' : Goes b c) : Goes a c := by
 induction h with
 | refl => exact h'
 | next hs _ ih => exact .next hs (ih h')
theorem Nt {e d : Ex} (h : e.step = some d) : e.value = false := by
 cases hv : e.value with
 | false => rfl
 | true => rw [Nw hv] at h; cases h
theorem Goes.bin1 {o : B5} {a a' b : Ex} (h : Goes a a') : Goes (.bin o a b) (.bin o a' b) := by
 induction h with
 | refl => exact .refl
 | next hs _ ih => exact .next Ml ih
theorem Goes.bin2 {o : B5} {a b b' : Ex} (ha : a.value = true) (h : Goes b b') : Goes (.bin o a b) (.bin o a b') := by
 induction h with
 | refl => exact .refl
 | next hs _ ih => exact .next (by simp only [Ex.step, ha, Bool.true_eq_false, if_false, Nt hs, if_true, hs, Option.map_some]) ih
theorem Goes.ite1 {a a' b c : Ex} (h : Goes a a') : Goes (.ite a b c) (.ite a' b c) := by
 induction h with
 | refl => exact .refl
 | next hs _ ih => exact .next Ml ih
theorem Goes.lt1 {x : As} {a a' b : Ex} (h : Goes a a') : Goes (.lt x a b) (.lt x a' b) := by
 induction h with
 | refl => exact .refl
 | next hs _ ih => exact .next Ml ih
theorem Goes.un1 {o : U2} {a a' : Ex} (h : Goes a a') : Goes (.un o a) (.un o a') := by
 induction h with
 | refl => exact .refl
 | next hs _ ih => exact .next Ml ih
theorem Goes.end {e v d : Ex} (h : Goes e v) (hv : v.step = none) (h' : Goes e d) (hd : d.step = none) : v = d := by
 induction h with
 | refl =>
  cases h' with
  | refl => rfl
  | next hs _ => rw [hv] at hs; cases hs
 | next hs _ ih =>
  cases h' with
  | refl => rw [hd] at hs; cases hs
  | next hs' h2 =>
   rw [hs] at hs'; obtain rfl := Option.some.inj hs'
   exact ih hv h2
def Ex.jam (e : Ex) : Prop := e.value = false ∧ e.step = none
theorem Ac5 {o : B5} {a b : Ex} (h : a.jam) : (Ex.bin o a b).jam := ⟨by cases o <;> simp [Ex.value, h.1], by simp only [Ex.step, h.1, if_true, h.2, Option.map_none]⟩
theorem Ac6 {o : B5} {a b : Ex} (ha : a.value = true) (h : b.jam) : (Ex.bin o a b).jam := ⟨by cases o <;> simp [Ex.value, h.1], by simp only [Ex.step, ha, Bool.true_eq_false, if_false, h.1, if_true, h.2, Option.map_none]⟩
theorem Aen {a b c : Ex} (h : a.jam) : (Ex.ite a b c).jam := ⟨rfl, by simp only [Ex.step, h.1, if_true, h.2, Option.map_none]⟩
theorem Af1 {x : As} {a b : Ex} (h : a.jam) : (Ex.lt x a b).jam := ⟨rfl, by simp only [Ex.step, h.1, if_true, h.2, Option.map_none]⟩
theorem Af2 {o : U2} {a : Ex} (h : a.jam) : (Ex.un o a).jam := ⟨rfl, by simp only [Ex.step, h.1, if_true, h.2, Option.map_none]⟩
def Res.says (r : Res) (e : Ex) : Prop := match r.v with
 | some w => w.wf ∧ Goes e w.ex ∧ r.stuck = false
 | none => r.stuck = true → ∃ d, Goes e d ∧ d.jam
theorem Res.says.from {r : Res} {e e' : Ex} (h : r.says e') (hg : Goes e e') : r.says e := by
 unfold Res.says at h ⊢
 split at h
 ·exact ⟨h.1, hg.trans h.2.1, h.2.2⟩
 ·intro hs; obtain ⟨d, h1, h2⟩ := h hs; exact ⟨d, hg.trans h1, h2⟩
theorem Res.says.up {r : Res} {e e' : Ex} (hn : r.v = none) (h : r.says e') (hg : ∀ d, Goes e' d → d.jam → ∃ d', Goes e d' ∧ d'.jam) : r.says e := by
 unfold Res.says at h ⊢
 rw [hn] at h ⊢; intro hs; obtain ⟨d, h1, h2⟩ := h hs
 exact hg d h1 h2
theorem Res.says.some {r : Res} {e : Ex} {w : KV} (hn : r.v = Option.some w) (h : r.says e) : w.wf ∧ Goes e w.ex := by
 unfold Res.says at h
 rw [hn] at h
 exact ⟨h.1, h.2.1⟩
theorem Abv {o : B5} {u w : KV} (hu : u.wf) (hw : w.wf) (n : Nat) (hc : ∀ f x s t b r, ¬ (o = .call ∧ u = .clo f x s t b r)) : (Res.of (o.act u w) n).says (.bin o u.ex w.ex) := by
 have vu := (KV.closed hu).2.1
 have vw := (KV.closed hw).2.1
 have hst : (Ex.bin o u.ex w.ex).step = (Ex.bin o u.ex w.ex).turn := by simp only [Ex.step, vu, vw, Bool.true_eq_false, if_false]
 cases o with
 | pair => exact ⟨⟨hu, hw⟩, .refl, rfl⟩
 | call =>
  intro _; refine ⟨_, .refl, rfl, ?_⟩; rw [hst]
  cases u with
  | num s => cases w <;> rfl
  | pair a b => rfl
  | clo f x s t b r => exact absurd ⟨rfl, rfl⟩ (hc f x s t b r)
 | _ =>
  cases u with
  | num s =>
   cases w with
   | num q => exact ⟨(R0 _ s q).1, .next (by rw [hst]; rfl) .refl, rfl⟩
   | _ => exact fun _ => ⟨_, .refl, rfl, by rw [hst]; rfl⟩
  | pair a b => exact fun _ => ⟨_, .refl, rfl, by rw [hst]; rfl⟩
  | clo f x s t b r => exact fun _ => ⟨_, .refl, rfl, by rw [hst]; cases w <;> rfl⟩
theorem Z2 {o : U2} {u : KV} (hu : u.wf) (n : Nat) : (Res.of (o.act u) n).says (.un o u.ex) := by
 have vu := (KV.closed hu).2.1
 have hst : (Ex.un o u.ex).step = (Ex.un o u.ex).turn := by simp only [Ex.step, vu, Bool.true_eq_false, if_false]
 cases u with
 | pair a b =>
  cases o with
  | fst => exact ⟨hu.1, .next (by rw [hst]; rfl) .refl, rfl⟩
  | snd => exact ⟨hu.2, .next (by rw [hst]; rfl) .refl, rfl⟩
 | num s => cases o <;> exact fun _ => ⟨_, .refl, rfl, by rw [hst]; rfl⟩
 | clo f x s t b r => cases o <;> exact fun _ => ⟨_, .refl, rfl, by rw [hst]; rfl⟩
theorem Pc : ∀ (n : Nat) (e : Ex) (k : KE), k.wf → e.ok = true → (∀ y ∈ e.occ [], y ∈ k.dom) → (eval n e k).says (k.cl [] e) := by
 intro n
 induction n using Nat.strongRecOn with
 | _ n ih =>
  intro e k hk hok hd
  cases n with
  | zero => rw [Is]; exact fun h => by cases h
  | succ n =>
   have hl := fun e k => B7 n e k
   cases e with
   | num s => rw [Kc, Ab6]; exact ⟨hok, .refl, rfl⟩
   | name s =>
    rw [Ir]; obtain ⟨h1, h2⟩ := Zk hk s
    cases hs : k.look s with
    | none => exact fun h => by cases h
    | some v => obtain ⟨h3, h4⟩ := h1 v hs; rw [h3]; exact ⟨h4, .refl, rfl⟩
   | fn f x s t b =>
    rw [Lg, Ae5]; refine ⟨⟨hk, hok, fun y hy => ?_⟩, .refl, rfl⟩
    by_cases hm : y ∈ [f, x]
    ·exact .inl hm
    ·exact .inr (hd y (show y ∈ b.occ ([] ++ [f, x]) from Ex.occ_mem.2 ⟨hy, by simpa using hm⟩))
   | bin o a b =>
    simp only [Ex.ok, Bool.and_eq_true] at hok
    have ha := ih n Aa a k hk hok.1 (fun y hy => hd y (List.mem_append_left _ hy))
    have hb := ih (eval n a k).left (by have := hl a k; omega) b k hk hok.2 (fun y hy => hd y (List.mem_append_right _ hy))
    have hlb := B7 (eval n a k).left b k
    have hla := hl a k
    rw [G4, Ab4]
    cases hp : (eval n a k).v with
    | none => exact ha.up hp fun d h1 h2 => ⟨_, .bin1 h1, Ac5 h2⟩
    | some u =>
     obtain ⟨hu, gu⟩ := ha.some hp
     simp only
     cases hq : (eval (eval n a k).left b k).v with
     | none => exact (hb.up hq fun d h1 h2 => ⟨_, .bin2 (KV.closed hu).2.1 h1, Ac6 (KV.closed hu).2.1 h2⟩ : Res.says _ (.bin o u.ex (k.cl [] b))).from gu.bin1
     | some w =>
      obtain ⟨hw, gw⟩ := hb.some hq
      have g2 : Goes (.bin o (k.cl [] a) (k.cl [] b)) (.bin o u.ex w.ex) := gu.bin1.trans (.bin2 (KV.closed hu).2.1 gw)
      simp only
      split
      ·rename_i o' u' f x s t c r
       have hcl := hu
       obtain ⟨hr, hfok, hfd⟩ := hu
       have hfok' := hfok
       simp only [Ex.ok, Bool.and_eq_true, decide_eq_true_eq] at hfok'
       obtain ⟨⟨⟨⟨⟨nf, nx⟩, hfx⟩, _⟩, _⟩, hcok⟩ := hfok'; refine (ih _ Aa c (.cons x w (.cons f (.clo f x s t c r) r)) ⟨nx, hw, nf, hcl, hr⟩ hcok (fun y hy => ?_)).from (g2.trans (.next ?_ .refl))
       ·simp only [KE.dom, List.mem_cons]
        rcases hfd y hy with h | h
        ·simp only [List.mem_cons, List.not_mem_nil, or_false] at h
         rcases h with h | h
         ·exact .inr (.inl h)
         ·exact .inl h
        ·exact .inr (.inr h)
       ·have vw := (KV.closed hw).2.1
        simp only [Ex.step, (KV.closed hcl).2.1, vw, Bool.true_eq_false, if_false]
        show some (((r.cl [f, x] c).put f (KV.clo f x s t c r).ex).put x w.ex) = _
        congr 1
        simp only [KE.cl]
        rw [Fd Af, Fd Af]; rw [G8 (KV.closed hw).1 (KV.closed hcl).1 (Ne.symm hfx)]; rw [Pa hr (KV.closed hw).1 Af, Pa hr (KV.closed hcl).1 (by simpa using hfx)]; rw [V3 r (bd := [f, x]) (bd' := [] ++ [x] ++ [f]) (by intro n; simp [or_comm])]
      ·rename_i hno
       exact (Abv hu hw _ (fun f x s t c r h => hno f x s t c r h.1 h.2)).from g2
   | ite a b c =>
    simp only [Ex.ok, Bool.and_eq_true] at hok
    have ha := ih n Aa a k hk hok.1.1 (fun y hy => hd y (List.mem_append_left _ (List.mem_append_left _ hy)))
    have hla := hl a k
    rw [Ht, Ab5]
    split
    ·rename_i hp; exact ha.up hp fun d h1 h2 => ⟨_, .ite1 h1, Aen h2⟩
    ·rename_i s hp
     obtain ⟨hu, gu⟩ := ha.some hp
     have hst : (Ex.ite (.num s) (k.cl [] b) (k.cl [] c)).step = some (k.cl [] (if s = [48] then b else c)) := by
      simp only [Ex.step, Ex.value, Bool.true_eq_false, if_false, Ex.turn]
      split <;> rfl
     refine (ih _ Aa _ k hk ?_ ?_).from (gu.ite1.trans (.next hst .refl))
     ·split
      ·exact hok.1.2
      ·exact hok.2
     ·split
      ·exact fun y hy => hd y (List.mem_append_left _ (List.mem_append_right _ hy))
      ·exact fun y hy => hd y (List.mem_append_right _ hy)
    ·rename_i u hno hp
     obtain ⟨hu, gu⟩ := ha.some hp; intro _; refine ⟨_, gu.ite1, rfl, ?_⟩
     simp only [Ex.step, (KV.closed hu).2.1, Bool.true_eq_false, if_false]
     cases u with
     | num s => exact absurd rfl (hno s)
     | pair a b => rfl
     | clo f x s t b r => rfl
   | lt x a b =>
    simp only [Ex.ok, Bool.and_eq_true] at hok
    have ha := ih n Aa a k hk hok.1.2 (fun y hy => hd y (List.mem_append_left _ hy))
    have hla := hl a k
    rw [I4, Ae6]
    split
    ·rename_i hp; exact ha.up hp fun d h1 h2 => ⟨_, .lt1 h1, Af1 h2⟩
    ·rename_i u hp
     obtain ⟨hu, gu⟩ := ha.some hp; refine (ih _ Aa b (.cons x u k) ⟨hok.1.1, hu, hk⟩ hok.2 (fun y hy => ?_)).from (gu.lt1.trans (.next ?_ .refl))
     ·simp only [KE.dom, List.mem_cons]
      by_cases hyx : y = x
      ·exact .inl hyx
      ·exact .inr (hd y (List.mem_append_right _ (show y ∈ b.occ ([] ++ [x]) from Ex.occ_mem.2 ⟨hy, by simpa using hyx⟩)))
     ·simp only [Ex.step, (KV.closed hu).2.1, Bool.true_eq_false, if_false, Ex.turn, KE.cl]
      rw [Fd Af, Pa hk (KV.closed hu).1 Af]
   | un o a =>
    have ha := ih n Aa a k hk hok (fun y hy => hd y hy)
    rw [I5, Ae7]
    split
    ·rename_i hp; exact ha.up hp fun d h1 h2 => ⟨_, .un1 h1, Af2 h2⟩
    ·rename_i u hp
     obtain ⟨hu, gu⟩ := ha.some hp
     exact (Z2 hu _).from gu.un1
section
variable {P : Program} {f : FuncId} {n : Nat} {I₀ : Heap} {Q : C3} {k : List Item} {E : Hw} {I : Heap} {L : Bh} {ops : Array Oper} {d : Nat} {ty : TypeId} {pos : String} {af : Array Edge} {g : Option (Nat × Bool)} {l : List Oper}
theorem Xg {T e sz bb : Nat} {z : List Value} [ht : Aw P T (.pointer e) sz bb z] (p : Option Addr) (w : World) : (Op.equal T (.pointer p) (.pointer none)).run P w = .ok p.isNone w := by
 refine run_equal_pointer_nil w T p ?_; rw [ht.und]; unfold Program.pointee; rw [ht.und]
theorem Abi {S : World → Prop} {T T' e sz bb : Nat} {z : List Value} [ht : Aw P T (.pointer e) sz bb z] {x y : Operand} {oa : Option Addr} (hx : Cf E x = some (.pointer oa)) (hy : Cf E y = some (.pointer none)) :
  Hy P E S ⟨some d, .binOp .eql T x y T', ty, pos, af, g⟩ (.bool oa.isNone) := fun ac w he _ => by
 simp only [execOp, he.eval hx, he.eval hy]
 refine Ag (a := _) (w' := w) ?_ |>.trans rfl
 rw [Ag (Hz w)]
 simp only [binOp]
 exact Ag (Xg oa w) |>.trans rfl
theorem Hj {T T' e sz bb : Nat} {z : List Value} [ht : Aw P T (.pointer e) sz bb z] {x y : Operand} {oa : Option Addr} (hx : Cf E x = some (.pointer oa)) (hy : Cf E y = some (.pointer none)) (hg : Wants ops E g) (hdn : Nat.blt d n = true)
  (h : A6 P f n I₀ Q ops l k ((d, .bool oa.isNone) :: E) I L) : A6 P f n I₀ Q ops (⟨some d, .binOp .eql T x y T', ty, pos, af, g⟩ :: l) k E I L := D7 (Abi hx hy) hg hdn h
theorem Abl {S : World → Prop} {T T' e sz bb : Nat} {z : List Value} [ht : Aw P T (.pointer e) sz bb z] {x y : Operand} {oa : Option Addr} (hx : Cf E x = some (.pointer oa)) (hy : Cf E y = some (.pointer none)) :
  Hy P E S ⟨some d, .binOp .neq T x y T', ty, pos, af, g⟩ (.bool (!oa.isNone)) := fun ac w he _ => by
 simp only [execOp, he.eval hx, he.eval hy]
 refine Ag (a := _) (w' := w) ?_ |>.trans rfl
 rw [Ag (Hz w)]
 simp only [binOp]
 exact Ag (Xg oa w) |>.trans rfl
theorem My {T T' e sz bb : Nat} {z : List Value} [ht : Aw P T (.pointer e) sz bb z] {x y : Operand} {oa : Option Addr} (hx : Cf E x = some (.pointer oa)) (hy : Cf E y = some (.pointer none)) (hg : Wants ops E g) (hdn : Nat.blt d n = true)
  (h : A6 P f n I₀ Q ops l k ((d, .bool (!oa.isNone)) :: E) I L) : A6 P f n I₀ Q ops (⟨some d, .binOp .neq T x y T', ty, pos, af, g⟩ :: l) k E I L := D7 (Abl hx hy) hg hdn h
theorem Abm {S : World → Prop} {T T' e sz bb : Nat} {z : List Value} [ht : Aw P T (.slice e) sz bb z] {x y : Operand} {oa : Option Addr} {m c : Nat} (hx : Cf E x = some (.slice oa m c)) (hy : Cf E y = some (.slice none 0 0)) :
  Hy P E S ⟨some d, .binOp .neq T x y T', ty, pos, af, g⟩ (.bool (!oa.isNone)) := fun ac w he _ => by
 simp only [execOp, he.eval hx, he.eval hy]
 refine Ag (a := _) (w' := w) ?_ |>.trans rfl
 rw [Ag (Kt w)]
 have h : ∀ d : Nat, (Op.equalIn (d + 1) T (.slice oa m c) (.slice none 0 0)).run P w = .ok oa.isNone w := fun d => by
  unfold Op.equalIn
  rw [Ag (A8 ht.und w)]
  cases oa <;> rfl
 simp only [binOp, Op.equal]
 exact Ag (h 9999) |>.trans rfl
theorem Pr {T T' e sz bb : Nat} {z : List Value} [ht : Aw P T (.slice e) sz bb z] {x y : Operand} {oa : Option Addr} {m c : Nat} (hx : Cf E x = some (.slice oa m c)) (hy : Cf E y = some (.slice none 0 0)) (hg : Wants ops E g) (hdn : Nat.blt d n = true)
  (h : A6 P f n I₀ Q ops l k ((d, .bool (!oa.isNone)) :: E) I L) : A6 P f n I₀ Q ops (⟨some d, .binOp .neq T x y T', ty, pos, af, g⟩ :: l) k E I L := D7 (Abm hx hy) hg hdn h
end
mutual
inductive KVat : Heap → KV → Addr → Prop
 | num {I : Heap} {s : As} {a : Addr} (h : Still I a [.string (str s), .slice none 0 0, .pointer none, .pointer none]) : KVat I (.num s) a
 | pair {I : Heap} {u v : KV} {a q pu pv : Addr} {c : Nat} (h : Still I a [.string (str []), .slice (some q) 2 c, .pointer none, .pointer none]) (hq : Still I q [.pointer (some pu), .pointer (some pv)]) (hc : 2 ≤ c) (hu : KVat I u pu) (hv : KVat I v pv) : KVat I (.pair u v) a
 | clo {I : Heap} {f x : As} {s t : Ty} {b : Ex} {r : KE} {a fa o : Addr} {c : Nat} {pr : Option Addr} (h : Still I a [.string (str []), .slice none 0 0, .pointer (some fa), .pointer pr])
  (hf : Still I fa [.string (str []), .slice (some o) 6 c]) (hr : Rep I (Ex.fn f x s t b).tree [.string (str []), .slice (some o) 6 c]) (he : KEat I r pr) : KVat I (.clo f x s t b r) a
inductive KEat : Heap → KE → Option Addr → Prop
 | nil {I : Heap} : KEat I .nil none
 | cons {I : Heap} {n : As} {v : KV} {up : KE} {a pv : Addr} {pu : Option Addr} (h : Still I a [.string (str n), .pointer (some pv), .pointer pu]) (hv : KVat I v pv) (hu : KEat I up pu) : KEat I (.cons n v up) (some a)
end
mutual
theorem KVat.mono {I I' : Heap} (hle : HLe I I') : ∀ {v : KV} {a : Addr}, KVat I v a → KVat I' v a
 | _, _, .num h => .num (h.mono hle)
 | _, _, .pair h hq hc hu hv => .pair (h.mono hle) (hq.mono hle) hc (hu.mono hle) (hv.mono hle)
 | _, _, .clo h hf hr he => .clo (h.mono hle) (hf.mono hle) (hr.mono hle) (he.mono hle)
theorem KEat.mono {I I' : Heap} (hle : HLe I I') : ∀ {r : KE} {p : Option Addr}, KEat I r p → KEat I' r p
 | _, _, .nil => .nil
 | _, _, .cons h hv hu => .cons (h.mono hle) (hv.mono hle) (hu.mono hle)
end
def RP? (I : Heap) (o : Option KV) (p : Option Addr) : Prop := match o with
 | some w => ∃ x, p = some x ∧ KVat I w x
 | none => p = none
def KL (o : Option KV) (I : Heap) (L : Bh) : C3 := fun v I' L' => ∃ p, v = .pointer p ∧ RP? I o p ∧ I = I' ∧ L = L'
theorem Wi {I : Heap} {r : KE} {p : Option Addr} (h : KEat I r p) (n : As) (L : Bh) : Fun Tryz.prog 83 [.pointer p, .string (str n)] I L (KL (r.look n) I L) := by
 refine Al Af ?_; refine Se rfl (Oa rfl (Ab (Ah (Ar ?_)))); refine Dv (X := KE × Option Addr) (fun x => SizeOf.sizeOf x.1) (fun x => [(0, .pointer x.2), (1, .string (str n))]) (fun _ => I) (fun _ => L) (fun x => KEat I x.1 x.2 ∧ x.1.look n = r.look n) ⟨r, p⟩ ⟨h, rfl⟩ ⟨rfl, rfl, trivial⟩ (fun _ h => h) ?_; rintro ⟨k, q⟩ ⟨hk, hlk⟩ ih
 simp only at hk hlk ih ⊢
 refine Ah (Ah ?_)
 rcases hk with _ | @⟨m, v, up, a, pv, pu, hst, hv, hu⟩
 ·skip
  refine Ao rfl (Om rfl ?_); refine My rfl rfl .free rfl ?_; refine Ab ?_
  first | refine Sf rfl Af ?_ | refine Ay Am ?_
  refine Cs rfl ?_; refine Se rfl (Oa rfl (Ab (Ai (.tmp rfl .nil) ?_))); refine ⟨I, L, .refl _, fun _ h => h, none, rfl, ?_, rfl, rfl⟩; rw [← hlk]; exact rfl
 ·skip
  refine Ao rfl (Om rfl ?_); refine My rfl rfl .free rfl ?_; refine Ab ?_
  first | refine St rfl Af ?_ | refine Bs Am ?_
  refine Aj (Ah (Ar (Se rfl (Om rfl ?_)))); refine Az rfl .free rfl ?_
  first | refine Oh rfl ?_ | refine Oj rfl ?_
  refine H3 rfl .free rfl ?_; refine Om rfl (Od rfl rfl rfl (Ab ?_)); refine Av rfl ?_ ?_
  ·intro c1
   try simp only [nb] at c1
   refine Se rfl (Om rfl ?_); refine Az rfl .free rfl ?_
   first | refine Oh rfl ?_ | refine Oj rfl ?_
   refine H3 rfl .free rfl ?_; refine Oa rfl (Ab (Ai (.tmp rfl .nil) ?_)); refine ⟨I, L, .refl _, fun _ h => h, some pv, rfl, ?_, rfl, rfl⟩; rw [← hlk, KE.look, if_pos c1]; exact ⟨pv, rfl, hv⟩
  intro c1
  try simp only [nb] at c1
  have hlu : up.look n = r.look n := by rw [← hlk, KE.look, if_neg c1]
  refine Aj (Aq (Ao rfl (Om rfl ?_))); refine Az rfl .free rfl ?_
  first | refine Oh rfl ?_ | refine Oj rfl ?_
  refine H3 rfl .free rfl ?_; refine Oa rfl (Ab ?_)
  exact Cw (E' := [(0, .pointer pu), (1, .string (str n))]) ⟨rfl, rfl, trivial⟩ (ih (up, pu) ⟨hu, hlu⟩ (by simp only [KE.cons.sizeOf_spec]; omega))
def S1 (b n : Nat) (st : Bool) : Nat × Obj := (b, .cells [.int .i64 (n : Nat), .bool st].toArray 55 (0, 0))
theorem L7 {I : Heap} {r : KE} {p : Option Addr} (h : KEat I r p) (n : As) {v : KV} {x : Addr} (hv : KVat I v x) (L : Bh) : Fun Tryz.prog 87 [.pointer p, .string (str n), .pointer (some x)] I L (fun w I' L' => ∃ y, w = .pointer (some y) ∧ KEat I' (.cons n v r) (some y) ∧ L = L') := by
 refine Al Af ?_; refine Se rfl (Oa rfl (Ab (Se rfl ?_)))
 iterate 3 refine Om rfl ?_
 refine Cd rfl rfl rfl .free rfl ?_; refine Cc rfl rfl .free rfl ?_; intro b11; refine Oa rfl (Ab ?_); refine Bv ?_; intro hz; refine Ai (.tmp rfl .nil) ?_
 exact ⟨_, L, hz, fun _ h => h, _, rfl, .cons (B0 (xs := [_, _, _]) (ys := [])) (hv.mono hz) (h.mono hz), rfl⟩
theorem Es (I : Heap) (b n : Nat) (L : Bh) : Fun Tryz.prog 86 [.pointer (some ⟨b, 0, none⟩)] I (S1 b n false :: L) (fun v I' L' => v = .pointer none ∧ I = I' ∧ L' = S1 b n true :: L) := by
 unfold S1
 refine Al Af ?_; refine Se rfl (Oa rfl (Ab (Se rfl (Om rfl ?_)))); refine Az rfl .free rfl ?_
 first | refine Oh rfl ?_ | refine Oj rfl ?_
 refine Bu rfl rfl rfl rfl .free ?_; refine Ab (Se rfl (Oa rfl (Ab (Ai (.tmp rfl .nil) ?_))))
 exact ⟨I, _, .refl _, fun _ h => h, rfl, rfl, rfl⟩
section
variable {P : Program} {f : FuncId} {n : Nat} {I₀ : Heap} {Q : C3} {k : List Item} {E : Hw} {I : Heap} {L : Bh} {ops : Array Oper} {d : Nat} {ty : TypeId} {pos : String} {af : Array Edge} {g : Option (Nat × Bool)}
theorem Agj {S : World → Prop} {fuel : Nat} {listed listed' : Array Bool} (i : Nat) {T : TypeId} {x : Operand} {v : Value} {vs : List Value}
  (hi : ops[i]? = some ⟨some d, .box T x, ty, pos, af, g⟩) (hc : decide (Region.ready .any ops listed = [i]) = true) (hl : listed' = listed.setIfInBounds i true) (hx : Cf E x = some v) (hv : Fx v = some vs) (hg : Wants ops E g) (hdn : Nat.blt d n = true) (hS : Fb ops listed' = true ∨ ∀ w, Mem I L w → S w)
  (h : ∀ b, Cq P f n I₀ Q ops S fuel listed' k ((d, .pointer (some ⟨b, 0, none⟩)) :: E) I ((b, .cells vs.toArray T (0, 0)) :: L)) : Cq P f n I₀ Q ops S (fuel + 1) listed k E I L :=
 Ub [i] hc rfl fun j hj => by
  obtain rfl := List.mem_singleton.1 hj; refine Mw j hi hl rfl hdn (fun a he => hg.wanted a he) fun a w he hm => ?_
  refine ⟨_, _, I, (w.heap.size, .cells vs.toArray T (0, 0)) :: L, ?_, hm.alloc _, hS.imp id fun hs w' hm' => hs w' hm'.drop, h _⟩
  simp only [execOp, Instr.box, he.eval hx, newVar, newRow, newObj, Jf hv]
  rfl
end
theorem Still.cellAt {I : Heap} {a : Addr} {vs : List Value} (h : Still I a vs) (k : Nat) {v : Value} (hk : vs[k]? = some v) : Still I (a.add k) [v] := by
 rcases h with h | ⟨c, T, fr, hb, hs, hc⟩
 ·subst h; simp at hk
 ·have hlt : k < vs.length := by
   rcases Nat.lt_or_ge k vs.length with g | g
   ·exact g
   ·rw [List.getElem?_eq_none g] at hk; cases hk
  have hb' : I.get (a.add k).block = some (.cells c T fr) := by unfold Addr.add; split <;> exact hb
  have hs' : (a.add k).spot = none := by unfold Addr.add; split <;> simp [hs]
  have ho : (a.add k).off = a.off + k := by unfold Addr.add; split <;> simp [*]
  refine .inr ⟨c, T, fr, hb', hs', fun i hi => ?_⟩
  have h0 : i = 0 := by simpa using hi
  subst h0
  have := hc k hlt
  rw [List.getElem?_eq_getElem hlt] at hk; obtain rfl := Option.some.inj hk; rw [ho]; simpa using this
def KV.nt : KV → As
 | .num s => s
 | _ => []
theorem KVat.cell {I : Heap} {v : KV} {a : Addr} (h : KVat I v a) : ∃ x1 x2 x3, Still I a [.string (str v.nt), x1, x2, x3] := by
 cases h with
 | num h => exact ⟨_, _, _, h⟩
 | pair h => exact ⟨_, _, _, h⟩
 | clo h => exact ⟨_, _, _, h⟩
theorem Yq {v : KV} (hw : v.wf) (h : ¬ v.nt = []) : ∃ s, v = .num s ∧ Bt s = true := by
 cases v with
 | num s => exact ⟨s, rfl, hw⟩
 | pair a b => exact absurd rfl h
 | clo f x s t b r => exact absurd rfl h
theorem Yr {s : As} (h : Bt s = true) : ¬ s = [] := fun e => by subst e; cases h
theorem Abu {o : B5} {u w : KV} (hu : u.wf) (hw : w.wf) (hp : o ≠ .pair) (h : u.nt = [] ∨ w.nt = []) : o.act u w = none := by
 cases o with
 | pair => exact absurd rfl hp
 | call => rfl
 | _ =>
  cases u with
  | num s =>
   cases w with
   | num q => exact absurd h (by intro h; rcases h with h | h; exact Yr hu h; exact Yr hw h)
   | _ => rfl
  | _ => cases w <;> rfl
def ER (b n : Nat) (o : Option KV) (L : Bh) : C3 := fun v I' L' => ∃ p, v = .pointer p ∧ RP? I' o p ∧ L' = S1 b n o.isNone :: L
theorem Uu {I : Heap} (ht : Tab I) {o : B5} (ho : o ≠ .call) {u w : KV} (wu : u.wf) (ww : w.wf) {pu pw q : Addr} {c : Nat} (hq : Still I q [.pointer (some pu), .pointer (some pw)]) (hc : 2 ≤ c) (hu : KVat I u pu) (hw : KVat I w pw) (b n : Nat) (L : Bh) :
  Fun Tryz.prog 88 [.pointer (some ⟨b, 0, none⟩), .string (str o.txt), .slice (some q) 2 c] I (S1 b n false :: L) (ER b n (o.act u w) L) := by
 obtain ⟨x1, x2, x3, su⟩ := hu.cell; obtain ⟨y1, y2, y3, sw⟩ := hw.cell
 have q0 : Still I (q.add (0 * 1)) [.pointer (some pu)] := hq.cellAt 0 rfl
 have q1 : Still I (q.add (1 * 1)) [.pointer (some pw)] := hq.cellAt 1 rfl
 have hfs : ¬ o.txt = [102, 115, 116] := M6 o .fst
 have hsn : ¬ o.txt = [115, 110, 100] := M6 o .snd
 refine Al Af ?_; refine Se rfl (Oa rfl (Ab (Ah (Se rfl (Om rfl (Ab (Ar (Se rfl (Od rfl rfl rfl (Oa rfl (Ab ?_))))))))))); refine Av rfl ?_ ?_
 ·intro c0
  try simp only [nb] at c0
  obtain rfl : o = .pair := B5.txt_inj (o' := .pair) c0; refine Se rfl (Om rfl ?_); refine Cd rfl rfl rfl .free rfl ?_; refine Cc rfl rfl .free rfl ?_; intro b12; refine Oa rfl (Ab ?_); refine Bv ?_; intro hz; refine Ai (.tmp rfl .nil) ?_
  exact ⟨_, _, hz, fun _ h => h, _, rfl, ⟨_, rfl, .pair (B0 (xs := [_, _, _, _]) (ys := [])) (hq.mono hz) hc (hu.mono hz) (hw.mono hz)⟩, rfl⟩
 intro c0
 try simp only [nb] at c0
 have hop : o ≠ .pair := fun e => c0 (by rw [e]; rfl)
 refine Ah (Se rfl (Od rfl rfl rfl (Oa rfl (Ab ?_))))
 first | refine Fw rfl (hfs) ?_ | refine Fv rfl (hfs) ?_ | refine Ay Am ?_
 refine Ao rfl (Od rfl rfl rfl (Oa rfl (Ab ?_)))
 first | refine Fw rfl (hsn) ?_ | refine Fv rfl (hsn) ?_ | refine Ay Am ?_
 refine Aj (Aq (Ah (Se rfl (Om rfl ?_))))
 first | refine Bk rfl rfl 0 rfl .free rfl ?_ | refine Bl rfl rfl 0 rfl .free rfl ?_
 refine Br rfl (Ba q0 rfl) .free rfl ?_; refine Az rfl .free rfl ?_
 first | refine Oh rfl ?_ | refine Oj rfl ?_
 refine Br rfl (Bc su Ac rfl) .free rfl ?_; refine Od rfl rfl rfl (Om rfl ?_)
 apply F6 50 58 rfl
 ·intro g11_8 hk
  try simp only [nb] at g11_8
  refine Ow rfl ?_
  first | refine Bk rfl rfl 1 rfl (.met rfl rfl) rfl ?_ | refine Bl rfl rfl 1 rfl (.met rfl rfl) rfl ?_
  refine Br rfl (Ba q1 rfl) (.met rfl rfl) rfl ?_; refine Az rfl (.met rfl rfl) rfl ?_
  first | refine A1 rfl (.met rfl rfl) rfl ?_ | refine Be rfl (.met rfl rfl) rfl ?_
  refine Br rfl (Bc sw Ac rfl) (.met rfl rfl) rfl ?_; refine Cg rfl rfl rfl (.met rfl rfl) rfl ?_; refine Of rfl rfl ?_
  exact Au 7 rfl rfl hk
 ·intro _ hk; refine A2 7 rfl ?_; refine Ot rfl rfl ?_
  exact Au 7 rfl rfl hk
 refine Ab ?_; refine Av rfl ?_ ?_
 ·intro c5
  try simp only [nb] at c5
  refine Se rfl (Om rfl ?_); refine Ca rfl (Es _ b n _) ?_; rintro _ _ _ _ ⟨rfl, rfl, rfl⟩; refine Oa rfl (Ab (Ai (.tmp rfl .nil) ?_))
  have hno : o.act u w = none := Abu wu ww hop c5
  exact ⟨I, _, .refl _, fun _ h => h, none, rfl, by rw [hno]; rfl, by rw [hno]; rfl⟩
 intro c5
 try simp only [nb] at c5
 obtain ⟨s, rfl, hs⟩ := Yq wu c5.1; obtain ⟨r, rfl, hr⟩ := Yq ww c5.2; refine Aj (Ah ?_); refine Eb 17 rfl rfl ?_; refine Da 0 rfl (Ak rfl) ?_; refine Da 1 rfl (Ak rfl) ?_
 first | refine Da 2 rfl (Bw rfl rfl 0 rfl) ?_ | refine Da 2 rfl (Bx rfl rfl 0 rfl) ?_
 refine Dt 3 [17] rfl (Ew rfl (Ba q0 rfl)) ?_; refine Da 4 rfl (Dy rfl) ?_
 first | refine Da 5 rfl (Ap rfl) ?_ | refine Da 5 rfl (Bi rfl) ?_
 refine Dt 6 [17] rfl (Ew rfl (Bc su Ac rfl)) ?_; refine Da 7 rfl (Ak rfl) ?_
 first | refine Da 8 rfl (Bw rfl rfl 1 rfl) ?_ | refine Da 8 rfl (Bx rfl rfl 1 rfl) ?_
 refine Dt 9 [17] rfl (Ew rfl (Ba q1 rfl)) ?_; refine Da 10 rfl (Dy rfl) ?_
 first | refine Da 11 rfl (Ap rfl) ?_ | refine Da 11 rfl (Bi rfl) ?_
 refine Dt 12 [17] rfl (Ew rfl (Bc sw Ac rfl)) ?_; refine Dc 13 rfl rfl (Acg ht o hs hr _) ?_; rintro _ _ _ _ ⟨rfl, rfl, rfl⟩; refine Hx ?_; refine Da 14 rfl (Em rfl rfl rfl) ?_; refine Agj 15 rfl Ae rfl rfl rfl .free rfl (.inr Ax) ?_; intro b76; refine Da 16 rfl (At rfl) ?_; refine A5 Ae ?_; refine Bv ?_; intro hz; refine Ai (.tmp rfl .nil) ?_
 have hac : o.act (.num s) (.num r) = some (.num (Pw o s r)) := by
  cases o <;> first | rfl | exact absurd rfl ho | exact absurd rfl hop
 rw [hac]
 exact ⟨_, _, hz, fun _ h => h, _, rfl, ⟨_, rfl, .num (B0 (xs := [_, _, _, _]) (ys := []))⟩, rfl⟩
theorem Wk {I : Heap} {o : U2} {u : KV} {pu q : Addr} {c : Nat} (hq : Still I q [.pointer (some pu)]) (hu : KVat I u pu) (b n : Nat) (L : Bh) :
  Fun Tryz.prog 88 [.pointer (some ⟨b, 0, none⟩), .string (str o.txt), .slice (some q) 1 c] I (S1 b n false :: L) (ER b n (o.act u) L) := by
 have q0 : Still I (q.add (0 * 1)) [.pointer (some pu)] := hq.cellAt 0 rfl
 have hoo : ¬ o.txt = [102, 115, 116] → o.txt = [115, 110, 100] := by
  cases o with
  | fst => exact fun h => absurd rfl h
  | snd => exact fun _ => rfl
 have hpa : ¬ o.txt = [112, 97, 105, 114] := fun h => M6 .pair o h.symm
 refine Al Af ?_; refine Se rfl (Oa rfl (Ab (Ah (Se rfl (Om rfl (Ab (Ar (Se rfl (Od rfl rfl rfl (Oa rfl (Ab ?_)))))))))))
 first | refine Fw rfl (hpa) ?_ | refine Fv rfl (hpa) ?_ | refine Ay Am ?_
 refine Ah (Se rfl (Od rfl rfl rfl (Oa rfl (Ab ?_)))); refine Av rfl ?_ ?_
 ·intro c1
  try simp only [nb] at c1
  refine Aj ?_
  first | refine Sr rfl (by first | rfl | exact hoo c1 | decide) ?_ | refine Sq rfl (by first | rfl | exact hoo c1 | decide) ?_ | refine Bs Am ?_
  refine Ah (Ah ?_)
  rcases hu with @⟨s, a, hs⟩ | @⟨u1, u2, a, q2, p1, p2, c2, hs, hq2, hc2, h1, h2⟩ | @⟨f, x, s, t, bd, r, a, fa, oo, c2, pr, hs, hf, hrp, he⟩
  ·skip
   refine Ao rfl (Om rfl ?_)
   first | refine Bk rfl rfl 0 rfl .free rfl ?_ | refine Bl rfl rfl 0 rfl .free rfl ?_
   refine Br rfl (Ba q0 rfl) .free rfl ?_; refine Az rfl .free rfl ?_
   first | refine Oh rfl ?_ | refine Oj rfl ?_
   refine Br rfl (Bc hs Ac rfl) .free rfl ?_; refine Ib rfl rfl .free rfl ?_; refine Ab ?_
   first | refine St rfl (rfl) ?_ | refine Bs Am ?_
   refine Se rfl (Om rfl ?_); refine Ca rfl (Es _ b n _) ?_; rintro _ _ _ _ ⟨rfl, rfl, rfl⟩; refine Oa rfl (Ab (Ai (.tmp rfl .nil) ?_))
   exact ⟨I, _, .refl _, fun _ h => h, none, rfl, by cases o <;> rfl, by cases o <;> rfl⟩
  ·skip
   have r0 : Still I (q2.add (0 * 1)) [.pointer (some p1)] := hq2.cellAt 0 rfl
   have r1 : Still I (q2.add (1 * 1)) [.pointer (some p2)] := hq2.cellAt 1 rfl
   refine Ao rfl (Om rfl ?_)
   first | refine Bk rfl rfl 0 rfl .free rfl ?_ | refine Bl rfl rfl 0 rfl .free rfl ?_
   refine Br rfl (Ba q0 rfl) .free rfl ?_; refine Az rfl .free rfl ?_
   first | refine Oh rfl ?_ | refine Oj rfl ?_
   refine Br rfl (Bc hs Ac rfl) .free rfl ?_; refine Ib rfl rfl .free rfl ?_; refine Ab ?_
   first | refine Sf rfl Af ?_ | refine Ay Am ?_
   refine Aj (Ah (Se rfl (Om rfl (Od rfl rfl rfl (Ab ?_))))); refine Av rfl ?_ ?_
   ·intro c4
    try simp only [nb] at c4
    refine Se rfl (Om rfl ?_)
    first | refine Bk rfl rfl 0 rfl .free rfl ?_ | refine Bl rfl rfl 0 rfl .free rfl ?_
    refine Br rfl (Ba q0 rfl) .free rfl ?_; refine Az rfl .free rfl ?_
    first | refine Oh rfl ?_ | refine Oj rfl ?_
    refine Br rfl (Bc hs Ac rfl) .free rfl ?_
    first | refine Bk rfl rfl 0 rfl .free rfl ?_ | refine Bl rfl rfl 0 rfl .free rfl ?_
    refine Br rfl (Ba r0 rfl) .free rfl ?_; refine Oa rfl (Ab (Ai (.tmp rfl .nil) ?_)); obtain rfl : o = .fst := U2.txt_inj (o' := .fst) c4
    exact ⟨I, _, .refl _, fun _ h => h, _, rfl, ⟨_, rfl, h1⟩, rfl⟩
   intro c4
   try simp only [nb] at c4
   refine Aj (Se rfl (Om rfl ?_))
   first | refine Bk rfl rfl 0 rfl .free rfl ?_ | refine Bl rfl rfl 0 rfl .free rfl ?_
   refine Br rfl (Ba q0 rfl) .free rfl ?_; refine Az rfl .free rfl ?_
   first | refine Oh rfl ?_ | refine Oj rfl ?_
   refine Br rfl (Bc hs Ac rfl) .free rfl ?_
   first | refine Bk rfl rfl 1 rfl .free rfl ?_ | refine Bl rfl rfl 1 rfl .free rfl ?_
   refine Br rfl (Ba r1 rfl) .free rfl ?_; refine Oa rfl (Ab (Ai (.tmp rfl .nil) ?_)); obtain rfl : o = .snd := by
    cases o with
    | fst => exact absurd rfl c4
    | snd => rfl
   exact ⟨I, _, .refl _, fun _ h => h, _, rfl, ⟨_, rfl, h2⟩, rfl⟩
  ·skip
   refine Ao rfl (Om rfl ?_)
   first | refine Bk rfl rfl 0 rfl .free rfl ?_ | refine Bl rfl rfl 0 rfl .free rfl ?_
   refine Br rfl (Ba q0 rfl) .free rfl ?_; refine Az rfl .free rfl ?_
   first | refine Oh rfl ?_ | refine Oj rfl ?_
   refine Br rfl (Bc hs Ac rfl) .free rfl ?_; refine Ib rfl rfl .free rfl ?_; refine Ab ?_
   first | refine St rfl (rfl) ?_ | refine Bs Am ?_
   refine Se rfl (Om rfl ?_); refine Ca rfl (Es _ b n _) ?_; rintro _ _ _ _ ⟨rfl, rfl, rfl⟩; refine Oa rfl (Ab (Ai (.tmp rfl .nil) ?_))
   exact ⟨I, _, .refl _, fun _ h => h, none, rfl, by cases o <;> rfl, by cases o <;> rfl⟩
 intro c1
 try simp only [nb] at c1
 refine Ao rfl (Od rfl rfl rfl (Oa rfl (Ab ?_)))
 first | refine Sr rfl (by first | rfl | exact hoo c1 | decide) ?_ | refine Sq rfl (by first | rfl | exact hoo c1 | decide) ?_ | refine Bs Am ?_
 refine Ah (Ah ?_)
 rcases hu with @⟨s, a, hs⟩ | @⟨u1, u2, a, q2, p1, p2, c2, hs, hq2, hc2, h1, h2⟩ | @⟨f, x, s, t, bd, r, a, fa, oo, c2, pr, hs, hf, hrp, he⟩
 ·skip
  refine Ao rfl (Om rfl ?_)
  first | refine Bk rfl rfl 0 rfl .free rfl ?_ | refine Bl rfl rfl 0 rfl .free rfl ?_
  refine Br rfl (Ba q0 rfl) .free rfl ?_; refine Az rfl .free rfl ?_
  first | refine Oh rfl ?_ | refine Oj rfl ?_
  refine Br rfl (Bc hs Ac rfl) .free rfl ?_; refine Ib rfl rfl .free rfl ?_; refine Ab ?_
  first | refine St rfl (rfl) ?_ | refine Bs Am ?_
  refine Se rfl (Om rfl ?_); refine Ca rfl (Es _ b n _) ?_; rintro _ _ _ _ ⟨rfl, rfl, rfl⟩; refine Oa rfl (Ab (Ai (.tmp rfl .nil) ?_))
  exact ⟨I, _, .refl _, fun _ h => h, none, rfl, by cases o <;> rfl, by cases o <;> rfl⟩
 ·skip
  have r0 : Still I (q2.add (0 * 1)) [.pointer (some p1)] := hq2.cellAt 0 rfl
  have r1 : Still I (q2.add (1 * 1)) [.pointer (some p2)] := hq2.cellAt 1 rfl
  refine Ao rfl (Om rfl ?_)
  first | refine Bk rfl rfl 0 rfl .free rfl ?_ | refine Bl rfl rfl 0 rfl .free rfl ?_
  refine Br rfl (Ba q0 rfl) .free rfl ?_; refine Az rfl .free rfl ?_
  first | refine Oh rfl ?_ | refine Oj rfl ?_
  refine Br rfl (Bc hs Ac rfl) .free rfl ?_; refine Ib rfl rfl .free rfl ?_; refine Ab ?_
  first | refine Sf rfl Af ?_ | refine Ay Am ?_
  refine Aj (Ah (Se rfl (Om rfl (Od rfl rfl rfl (Ab ?_))))); refine Av rfl ?_ ?_
  ·intro c4
   try simp only [nb] at c4
   refine Se rfl (Om rfl ?_)
   first | refine Bk rfl rfl 0 rfl .free rfl ?_ | refine Bl rfl rfl 0 rfl .free rfl ?_
   refine Br rfl (Ba q0 rfl) .free rfl ?_; refine Az rfl .free rfl ?_
   first | refine Oh rfl ?_ | refine Oj rfl ?_
   refine Br rfl (Bc hs Ac rfl) .free rfl ?_
   first | refine Bk rfl rfl 0 rfl .free rfl ?_ | refine Bl rfl rfl 0 rfl .free rfl ?_
   refine Br rfl (Ba r0 rfl) .free rfl ?_; refine Oa rfl (Ab (Ai (.tmp rfl .nil) ?_)); obtain rfl : o = .fst := U2.txt_inj (o' := .fst) c4
   exact ⟨I, _, .refl _, fun _ h => h, _, rfl, ⟨_, rfl, h1⟩, rfl⟩
  intro c4
  try simp only [nb] at c4
  refine Aj (Se rfl (Om rfl ?_))
  first | refine Bk rfl rfl 0 rfl .free rfl ?_ | refine Bl rfl rfl 0 rfl .free rfl ?_
  refine Br rfl (Ba q0 rfl) .free rfl ?_; refine Az rfl .free rfl ?_
  first | refine Oh rfl ?_ | refine Oj rfl ?_
  refine Br rfl (Bc hs Ac rfl) .free rfl ?_
  first | refine Bk rfl rfl 1 rfl .free rfl ?_ | refine Bl rfl rfl 1 rfl .free rfl ?_
  refine Br rfl (Ba r1 rfl) .free rfl ?_; refine Oa rfl (Ab (Ai (.tmp rfl .nil) ?_)); obtain rfl : o = .snd := by
   cases o with
   | fst => exact absurd rfl c4
   | snd => rfl
  exact ⟨I, _, .refl _, fun _ h => h, _, rfl, ⟨_, rfl, h2⟩, rfl⟩
 ·skip
  refine Ao rfl (Om rfl ?_)
  first | refine Bk rfl rfl 0 rfl .free rfl ?_ | refine Bl rfl rfl 0 rfl .free rfl ?_
  refine Br rfl (Ba q0 rfl) .free rfl ?_; refine Az rfl .free rfl ?_
  first | refine Oh rfl ?_ | refine Oj rfl ?_
  refine Br rfl (Bc hs Ac rfl) .free rfl ?_; refine Ib rfl rfl .free rfl ?_; refine Ab ?_
  first | refine St rfl (rfl) ?_ | refine Bs Am ?_
  refine Se rfl (Om rfl ?_); refine Ca rfl (Es _ b n _) ?_; rintro _ _ _ _ ⟨rfl, rfl, rfl⟩; refine Oa rfl (Ab (Ai (.tmp rfl .nil) ?_))
  exact ⟨I, _, .refl _, fun _ h => h, none, rfl, by cases o <;> rfl, by cases o <;> rfl⟩
end Go.Proofs.YtmfagaajiakgoaaGreatDoor
