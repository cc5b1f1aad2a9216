/- Plain names. No conditions. -/
import Derived.Test.YtjhjhepjchdpgaaGreatDoorG11
import Derived.Shelf.Strconv.Itoa3
import Derived.Test.YtjhjhepjchdpgaaGreatDoorProg
namespace Go.Proofs.YtjhjhepjchdpgaaGreatDoor
set_option maxRecDepth 100000
set_option linter.unusedVariables false
set_option linter.unusedSimpArgs false

/-- The number of decimals. -/
def numT (s : Txt) : Nat := s.foldl (fun a c => 10 * a + (c.toNat - 48)) 0
theorem numT_app (s : Txt) (c : UInt8) : numT (s ++ [c]) = 10 * numT s + (c.toNat - 48) := by simp [numT]
theorem digit_val {d : Nat} (h : d < 10) : (UInt8.ofNat (48 + d)).toNat - 48 = d := by
 have : (UInt8.ofNat (48 + d)).toNat = 48 + d := by simp [UInt8.toNat_ofNat]; omega
 omega
theorem numT_decT : ∀ n : Nat, numT (decT n) = n := by
 intro n
 induction n using Nat.strongRecOn with
 | _ n ih =>
  by_cases h : n < 10
  ·rw [decT_small h]
   show 10 * 0 + ((UInt8.ofNat (48 + n)).toNat - 48) = n
   rw [digit_val h]; omega
  ·rw [decT_big h, numT_app, ih (n / 10) (by omega), digit_val (Nat.mod_lt _ (by omega))]
   omega
theorem decT_inj {a b : Nat} (h : decT a = decT b) : a = b := by
 have := congrArg numT h
 rwa [numT_decT, numT_decT] at this
def nm (c : UInt8) (n : Nat) : Txt := c :: decT n
theorem nm_inj {c : UInt8} {a b : Nat} (h : nm c a = nm c b) : a = b := decT_inj (List.cons.inj h).2
/-- How many of the first 'n' names are barred. -/
def hits (c : UInt8) (av : List Txt) (n : Nat) : Nat := ((List.range n).filter fun k => decide (nm c k ∈ av)).length
theorem hits_succ (c : UInt8) (av : List Txt) (n : Nat) : hits c av (n + 1) = hits c av n + (if nm c n ∈ av then 1 else 0) := by
 unfold hits
 rw [List.range_succ, List.filter_append]
 by_cases h : nm c n ∈ av <;> simp [h]
theorem sub_length : ∀ {l m : List Txt}, l.Nodup → (∀ x ∈ l, x ∈ m) → l.length ≤ m.length
 | [], m, _, _ => Nat.zero_le _
 | x :: l, m, hn, hs => by
  obtain ⟨h1, h2⟩ := List.nodup_cons.1 hn
  have hx := hs x (.head _)
  have := sub_length (l := l) (m := m.erase x) h2 fun y hy => by
   have hne : y ≠ x := by rintro rfl; exact h1 hy
   exact (List.mem_erase_of_ne hne).2 (hs y (.tail _ hy))
  rw [List.length_erase_of_mem hx] at this
  have := List.length_pos_of_mem hx
  simp only [List.length_cons]; omega
theorem hits_le (c : UInt8) (av : List Txt) (n : Nat) : hits c av n ≤ av.length := by
 unfold hits
 rw [← List.length_map (f := nm c)]
 refine sub_length ?_ ?_
 ·have h1 : ((List.range n).filter fun k => decide (nm c k ∈ av)).Nodup := List.nodup_range.filter _
  unfold List.Nodup at h1 ⊢
  rw [List.pairwise_map]
  exact h1.imp fun h e => h (nm_inj e)
 ·intro x hx
  obtain ⟨k, hk, rfl⟩ := List.mem_map.1 hx
  simpa using (List.mem_filter.1 hk).2
/-- The next number whose name is not barred. -/
def frs (c : UInt8) (av : List Txt) : Nat → Nat → Nat
 | 0, n => n
 | k + 1, n => if nm c n ∈ av then frs c av k (n + 1) else n
theorem frs_hits {c : UInt8} {av : List Txt} : ∀ {k n : Nat}, av.length ≤ hits c av n + k → nm c (frs c av k n) ∉ av ∧ n ≤ frs c av k n ∧ frs c av k n + hits c av n = n + hits c av (frs c av k n)
 | 0, n, h => by
  have h1 := hits_le c av (n + 1)
  rw [hits_succ] at h1
  refine ⟨fun hm => ?_, Nat.le_refl _, rfl⟩
  simp only [frs] at hm
  rw [if_pos hm] at h1; omega
 | k + 1, n, h => by
  simp only [frs]
  by_cases hm : nm c n ∈ av
  ·rw [if_pos hm]
   have h2 := hits_succ c av n
   rw [if_pos hm] at h2
   obtain ⟨h3, h4, h5⟩ := frs_hits (c := c) (av := av) (k := k) (n := n + 1) (by omega)
   exact ⟨h3, by omega, by omega⟩
  ·rw [if_neg hm]; exact ⟨hm, Nat.le_refl _, rfl⟩
def fr (c : UInt8) (av : List Txt) (n : Nat) : Nat := frs c av av.length n
theorem fr_facts (c : UInt8) (av : List Txt) (n : Nat) : nm c (fr c av n) ∉ av ∧ n ≤ fr c av n ∧ fr c av n + hits c av n = n + hits c av (fr c av n) := frs_hits (by omega)
theorem fr_hits_succ (c : UInt8) (av : List Txt) (n : Nat) : fr c av n + 1 + hits c av n = n + 1 + hits c av (fr c av n + 1) := by
 obtain ⟨h1, h2, h3⟩ := fr_facts c av n
 have := hits_succ c av (fr c av n)
 rw [if_neg h1] at this; omega
theorem frs_stop {c : UInt8} {av : List Txt} : ∀ {k n m : Nat}, (∀ j, n ≤ j → j < m → nm c j ∈ av) → n ≤ m → m ≤ n + k → nm c m ∉ av → frs c av k n = m
 | 0, n, m, _, h1, h2, _ => by simp only [frs]; omega
 | k + 1, n, m, h, h1, h2, h3 => by
  simp only [frs]
  by_cases hm : nm c n ∈ av
  ·rw [if_pos hm]
   have : n ≠ m := by rintro rfl; exact h3 hm
   exact frs_stop (fun j a b => h j (by omega) b) (by omega) (by omega) h3
  ·rw [if_neg hm]
   by_cases he : n = m
   ·exact he
   ·exact absurd (h n (Nat.le_refl _) (by omega)) hm
theorem fr_stop {c : UInt8} {av : List Txt} {n m : Nat} (h : ∀ j, n ≤ j → j < m → nm c j ∈ av) (h1 : n ≤ m) (h3 : nm c m ∉ av) : fr c av n = m := by
 obtain ⟨g1, g2, g3⟩ := fr_facts c av n
 by_cases hlt : fr c av n < m
 ·exact absurd (h _ g2 hlt) g1
 ·have hmm : m ≤ fr c av n := by omega
  have key : ∀ d, hits c av (n + d) ≤ hits c av n + d := by
   intro d
   induction d with
   | zero => exact Nat.le_refl _
   | succ d ih => rw [← Nat.add_assoc, hits_succ]; split <;> omega
  have h5 : m ≤ n + av.length := by
   have e1 : ∀ d, n + d ≤ m → hits c av (n + d) = hits c av n + d := by
    intro d hd
    induction d with
    | zero => rfl
    | succ d ih =>
     rw [← Nat.add_assoc, hits_succ, if_pos (h (n + d) (by omega) (by omega)), ih (by omega)]; omega
   have e2 := e1 (m - n) (by omega)
   have e3 := hits_le c av (n + (m - n))
   omega
  exact frs_stop h h1 h5 h3

/-- The expression with plain names, and the next number. -/
def Ex.pl (av : List Txt) : Ex → List Txt → List Txt → Nat → Ex × Nat
 | .num s, _, _, n => (.num s, n)
 | .name s, f, t, n => (.name (match lastIdx f s with | some i => t.getD i [] | none => s), n)
 | .bin o a b, f, t, n => let p := a.pl av f t n; let q := b.pl av f t p.2; (.bin o p.1 q.1, q.2)
 | .ite a b c, f, t, n => let p := a.pl av f t n; let q := b.pl av f t p.2; let r := c.pl av f t q.2; (.ite p.1 q.1 r.1, r.2)
 | .lt x a b, f, t, n => let k := fr 120 av n; let p := a.pl av f t (k + 1); let q := b.pl av (f ++ [x]) (t ++ [nm 120 k]) p.2; (.lt (nm 120 k) p.1 q.1, q.2)
 | .fn g x s u b, f, t, n => let k := fr 120 av n; let j := fr 120 av (k + 1); let p := b.pl av (f ++ [g, x]) (t ++ [nm 120 k, nm 120 j]) (j + 1); (.fn (nm 120 k) (nm 120 j) s u p.1, p.2)
 | .un o a, f, t, n => let p := a.pl av f t n; (.un o p.1, p.2)
/-- How many names are bound. -/
def Ex.nb : Ex → Nat
 | .num _ => 0
 | .name _ => 0
 | .bin _ a b => a.nb + b.nb
 | .ite a b c => a.nb + b.nb + c.nb
 | .lt _ a b => 1 + a.nb + b.nb
 | .fn _ _ _ _ b => 2 + b.nb
 | .un _ a => a.nb
theorem Ex.pl_hits (av : List Txt) : ∀ (e : Ex) (f t : List Txt) (n : Nat), n ≤ (e.pl av f t n).2 ∧ (e.pl av f t n).2 + hits 120 av n = n + e.nb + hits 120 av (e.pl av f t n).2
 | .num s, f, t, n => ⟨Nat.le_refl _, by simp [Ex.pl, Ex.nb]⟩
 | .name s, f, t, n => ⟨Nat.le_refl _, by simp [Ex.pl, Ex.nb]⟩
 | .bin o a b, f, t, n => by
  have h1 := a.pl_hits av f t n
  have h2 := b.pl_hits av f t (a.pl av f t n).2
  simp only [Ex.pl, Ex.nb]; omega
 | .ite a b c, f, t, n => by
  have h1 := a.pl_hits av f t n
  have h2 := b.pl_hits av f t (a.pl av f t n).2
  have h3 := c.pl_hits av f t (b.pl av f t (a.pl av f t n).2).2
  simp only [Ex.pl, Ex.nb]; omega
 | .lt x a b, f, t, n => by
  have h0 := fr_hits_succ 120 av n
  have h00 := (fr_facts 120 av n).2.1
  have h1 := a.pl_hits av f t (fr 120 av n + 1)
  have h2 := b.pl_hits av (f ++ [x]) (t ++ [nm 120 (fr 120 av n)]) (a.pl av f t (fr 120 av n + 1)).2
  simp only [Ex.pl, Ex.nb]; omega
 | .fn g x s u b, f, t, n => by
  have h0 := fr_hits_succ 120 av n
  have h00 := (fr_facts 120 av n).2.1
  have h1 := fr_hits_succ 120 av (fr 120 av n + 1)
  have h11 := (fr_facts 120 av (fr 120 av n + 1)).2.1
  have h2 := b.pl_hits av (f ++ [g, x]) (t ++ [nm 120 (fr 120 av n), nm 120 (fr 120 av (fr 120 av n + 1))]) (fr 120 av (fr 120 av n + 1) + 1)
  simp only [Ex.pl, Ex.nb]; omega
 | .un o a, f, t, n => by
  have h1 := a.pl_hits av f t n
  simp only [Ex.pl, Ex.nb]; omega
theorem Ex.pl_size (av : List Txt) : ∀ (e : Ex) (f t : List Txt) (n : Nat), (e.pl av f t n).1.size = e.size ∧ (e.pl av f t n).1.tree.depth = e.tree.depth ∧ (e.pl av f t n).1.many = e.many
 | .num s, f, t, n => ⟨rfl, rfl, rfl⟩
 | .name s, f, t, n => ⟨rfl, rfl, rfl⟩
 | .bin o a b, f, t, n => by
  obtain ⟨h1, h2, h3⟩ := a.pl_size av f t n
  obtain ⟨g1, g2, g3⟩ := b.pl_size av f t (a.pl av f t n).2
  simp only [Ex.pl, Ex.size, Ex.many, Ex.tree, Tree.depth, depthL, List.isEmpty_cons, cond_false, h1, h2, h3, g1, g2, g3, and_self]
 | .ite a b c, f, t, n => by
  obtain ⟨h1, h2, h3⟩ := a.pl_size av f t n
  obtain ⟨g1, g2, g3⟩ := b.pl_size av f t (a.pl av f t n).2
  obtain ⟨k1, k2, k3⟩ := c.pl_size av f t (b.pl av f t (a.pl av f t n).2).2
  simp only [Ex.pl, Ex.size, Ex.many, Ex.tree, Tree.depth, depthL, List.isEmpty_cons, cond_false, h1, h2, h3, g1, g2, g3, k1, k2, k3, and_self]
 | .lt x a b, f, t, n => by
  obtain ⟨h1, h2, h3⟩ := a.pl_size av f t (fr 120 av n + 1)
  obtain ⟨g1, g2, g3⟩ := b.pl_size av (f ++ [x]) (t ++ [nm 120 (fr 120 av n)]) (a.pl av f t (fr 120 av n + 1)).2
  simp only [Ex.pl, Ex.size, Ex.many, Ex.tree, Tree.depth, depthL, List.isEmpty_cons, List.isEmpty_nil, cond_true, cond_false, h1, h2, h3, g1, g2, g3, and_self]
 | .fn g x s u b, f, t, n => by
  obtain ⟨g1, g2, g3⟩ := b.pl_size av (f ++ [g, x]) (t ++ [nm 120 (fr 120 av n), nm 120 (fr 120 av (fr 120 av n + 1))]) (fr 120 av (fr 120 av n + 1) + 1)
  simp only [Ex.pl, Ex.size, Ex.many, Ex.tree, Tree.depth, depthL, List.isEmpty_cons, List.isEmpty_nil, cond_true, cond_false, g1, g2, g3, and_self]
 | .un o a, f, t, n => by
  obtain ⟨h1, h2, h3⟩ := a.pl_size av f t n
  simp only [Ex.pl, Ex.size, Ex.many, Ex.tree, Tree.depth, depthL, List.isEmpty_cons, cond_false, h1, h2, h3, and_self]
/-- How many names stand in an expression. -/
theorem Ex.nb_occ : ∀ (e : Ex) (bd : List Txt), 3 * (e.nb + (e.occ bd).length) ≤ 2 * e.size + 1
 | .num s, bd => by simp [Ex.nb, Ex.occ, Ex.size]
 | .name s, bd => by simp only [Ex.nb, Ex.occ, Ex.size]; split <;> simp
 | .bin o a b, bd => by have := a.nb_occ bd; have := b.nb_occ bd; simp only [Ex.nb, Ex.occ, Ex.size, List.length_append]; omega
 | .ite a b c, bd => by have := a.nb_occ bd; have := b.nb_occ bd; have := c.nb_occ bd; simp only [Ex.nb, Ex.occ, Ex.size, List.length_append]; omega
 | .lt x a b, bd => by have := a.nb_occ bd; have := b.nb_occ (bd ++ [x]); simp only [Ex.nb, Ex.occ, Ex.size, List.length_append]; omega
 | .fn f x s t b, bd => by have := b.nb_occ (bd ++ [f, x]); have := s.size_pos; have := t.size_pos; simp only [Ex.nb, Ex.occ, Ex.size]; omega
 | .un o a, bd => by have := a.nb_occ bd; simp only [Ex.nb, Ex.occ, Ex.size]; omega
end Go.Proofs.YtjhjhepjchdpgaaGreatDoor


/- Expressions with plain names are expressions. No conditions. -/
namespace Go.Proofs.YtjhjhepjchdpgaaGreatDoor
set_option maxRecDepth 100000
set_option linter.unusedVariables false
set_option linter.unusedSimpArgs false

theorem digit_of {d : Nat} (h : d < 10) : digit (UInt8.ofNat (48 + d)) = true := by
 have : (UInt8.ofNat (48 + d)).toNat = 48 + d := by simp [UInt8.toNat_ofNat]; omega
 simp only [digit, this, Bool.and_eq_true, decide_eq_true_eq]; omega
theorem decT_digits : ∀ n : Nat, (decT n).all digit = true := by
 intro n
 induction n using Nat.strongRecOn with
 | _ n ih =>
  by_cases h : n < 10
  ·rw [decT_small h]; simp only [List.all_cons, List.all_nil, Bool.and_true]; exact digit_of h
  ·rw [decT_big h, List.all_append, ih (n / 10) (by omega)]
   simp only [List.all_cons, List.all_nil, Bool.and_true, Bool.true_and]; exact digit_of (Nat.mod_lt n (by omega))
theorem decT_len {n : Nat} (h : n < 1000) : (decT n).length ≤ 3 := by
 by_cases h1 : n < 10
 ·rw [decT_small h1]; simp
 ·rw [decT_big h1, List.length_append]
  by_cases h2 : n / 10 < 10
  ·rw [decT_small h2]; simp
  ·rw [decT_big h2, List.length_append, decT_small (show n / 10 / 10 < 10 by omega)]; simp
theorem nm_name {c : UInt8} {n : Nat} (hc : lower c = true) (h : n < 1000) : isName (nm c n) = true := by
 have := decT_len h
 simp [nm, isName, hc, decT_digits n, this]
def namesL (l : List Txt) : Prop := ∀ s ∈ l, isName s = true
theorem namesL.add {l m : List Txt} (h : namesL l) (h' : namesL m) : namesL (l ++ m) := by
 intro s hs
 rcases List.mem_append.1 hs with hs | hs
 ·exact h s hs
 ·exact h' s hs
theorem Ex.pl_ok {av : List Txt} : ∀ {e : Ex} {f t : List Txt} {n : Nat}, e.ok = true → namesL t → f.length = t.length → n + e.nb + av.length ≤ 900 + hits 120 av n → (e.pl av f t n).1.ok = true
 | .num s, f, t, n, h, _, _, _ => h
 | .name s, f, t, n, h, ht, hl, _ => by
  simp only [Ex.pl, Ex.ok]
  cases hi : lastIdx f s with
  | none => exact h
  | some i =>
   have h1 := (lastAt_lt (show lastAt f s f.length = some i from hi)).1
   have h2 : i < t.length := by omega
   show isName (t.getD i []) = true
   rw [show t.getD i [] = t[i] by simp [h2]]
   exact ht _ (List.getElem_mem h2)
 | .bin o a b, f, t, n, h, ht, hl, hn => by
  simp only [Ex.ok, Bool.and_eq_true] at h
  simp only [Ex.nb] at hn
  have h1 := a.pl_hits av f t n
  have h2 := hits_le 120 av (a.pl av f t n).2
  simp only [Ex.pl, Ex.ok, Bool.and_eq_true]
  exact ⟨Ex.pl_ok h.1 ht hl (by omega), Ex.pl_ok h.2 ht hl (by omega)⟩
 | .ite a b c, f, t, n, h, ht, hl, hn => by
  simp only [Ex.ok, Bool.and_eq_true] at h
  simp only [Ex.nb] at hn
  have h1 := a.pl_hits av f t n
  have h2 := b.pl_hits av f t (a.pl av f t n).2
  have h3 := hits_le 120 av (a.pl av f t n).2
  have h4 := hits_le 120 av (b.pl av f t (a.pl av f t n).2).2
  simp only [Ex.pl, Ex.ok, Bool.and_eq_true]
  exact ⟨⟨Ex.pl_ok h.1.1 ht hl (by omega), Ex.pl_ok h.1.2 ht hl (by omega)⟩, Ex.pl_ok h.2 ht hl (by omega)⟩
 | .lt x a b, f, t, n, h, ht, hl, hn => by
  simp only [Ex.ok, Bool.and_eq_true] at h
  simp only [Ex.nb] at hn
  have h0 := fr_hits_succ 120 av n
  have h1 := a.pl_hits av f t (fr 120 av n + 1)
  have h2 := hits_le 120 av (fr 120 av n + 1)
  have h3 := hits_le 120 av (a.pl av f t (fr 120 av n + 1)).2
  have h4 := hits_le 120 av n
  have hz : isName (nm 120 (fr 120 av n)) = true := nm_name (by decide) (by omega)
  simp only [Ex.pl, Ex.ok, Bool.and_eq_true]
  exact ⟨⟨hz, Ex.pl_ok h.1.2 ht hl (by omega)⟩, Ex.pl_ok h.2 (ht.add fun s hs => by rw [List.mem_singleton.1 hs]; exact hz) (by simp [hl]) (by omega)⟩
 | .fn g x s u b, f, t, n, h, ht, hl, hn => by
  simp only [Ex.ok, Bool.and_eq_true, decide_eq_true_eq] at h
  obtain ⟨⟨⟨⟨⟨h1, h2⟩, h3⟩, h4⟩, h5⟩, h6⟩ := h
  simp only [Ex.nb] at hn
  have k0 := fr_hits_succ 120 av n
  have k1 := fr_hits_succ 120 av (fr 120 av n + 1)
  have k2 := hits_le 120 av (fr 120 av n + 1)
  have k3 := hits_le 120 av (fr 120 av (fr 120 av n + 1) + 1)
  have k5 := hits_le 120 av n
  have k4 := (fr_facts 120 av (fr 120 av n + 1)).2.1
  have hz1 : isName (nm 120 (fr 120 av n)) = true := nm_name (by decide) (by omega)
  have hz2 : isName (nm 120 (fr 120 av (fr 120 av n + 1))) = true := nm_name (by decide) (by omega)
  simp only [Ex.pl, Ex.ok, Bool.and_eq_true, decide_eq_true_eq]
  refine ⟨⟨⟨⟨⟨hz1, hz2⟩, fun e => ?_⟩, h4⟩, h5⟩, Ex.pl_ok h6 (ht.add fun s hs => ?_) (by simp [hl]) (by omega)⟩
  ·have := nm_inj e; omega
  ·simp only [List.mem_cons, List.not_mem_nil, or_false] at hs
   rcases hs with rfl | rfl
   ·exact hz1
   ·exact hz2
 | .un o a, f, t, n, h, ht, hl, hn => by
  simp only [Ex.pl, Ex.ok]
  exact Ex.pl_ok (e := a) h ht hl (by simpa [Ex.nb] using hn)
theorem B5.txt_len (o : B5) : o.txt.length ≤ 4 := by cases o <;> decide
theorem U2.txt_len (o : U2) : o.txt.length ≤ 3 := by cases o <;> decide
/-- An expression's text is short. -/
theorem Ex.len_size : ∀ {e : Ex}, e.ok = true → e.tree.len + 1 ≤ 8 * e.size
 | .num s, h => by
  have h : isNum s = true := h
  have : s.length ≤ 4 := by
   simp only [isNum, Bool.or_eq_true, Bool.and_eq_true, decide_eq_true_eq] at h
   rcases h with h | h
   ·rw [h]; decide
   ·have h1 := h.1.1.2
    unfold unsign at h1
    split at h1
    ·simp only [List.length_drop] at h1; omega
    ·omega
  simp only [Ex.tree, Tree.len, List.isEmpty_nil, cond_true, Ex.size]; omega
 | .name s, h => by
  have := isName_len (show isName s = true from h)
  simp only [Ex.tree, Tree.len, List.isEmpty_nil, cond_true, Ex.size]; omega
 | .bin o a b, h => by
  simp only [Ex.ok, Bool.and_eq_true] at h
  have h1 := Ex.len_size h.1; have h2 := Ex.len_size h.2; have h3 := o.txt_len
  simp only [Ex.tree, Tree.len, lenL, List.isEmpty_nil, List.isEmpty_cons, cond_true, cond_false, Ex.size]; omega
 | .ite a b c, h => by
  simp only [Ex.ok, Bool.and_eq_true] at h
  have h1 := Ex.len_size h.1.1; have h2 := Ex.len_size h.1.2; have h3 := Ex.len_size h.2
  simp only [Ex.tree, Tree.len, lenL, List.isEmpty_nil, List.isEmpty_cons, cond_true, cond_false, Ex.size, tIf, List.length_cons, List.length_nil]; omega
 | .lt x a b, h => by
  simp only [Ex.ok, Bool.and_eq_true] at h
  have h1 := Ex.len_size h.1.2; have h2 := Ex.len_size h.2; have h3 := isName_len h.1.1
  simp only [Ex.tree, Tree.len, lenL, List.isEmpty_nil, List.isEmpty_cons, cond_true, cond_false, Ex.size, tLet, List.length_cons, List.length_nil]; omega
 | .fn f x s t b, h => by
  simp only [Ex.ok, Bool.and_eq_true, decide_eq_true_eq] at h
  obtain ⟨⟨⟨⟨⟨h1, h2⟩, h3⟩, h4⟩, h5⟩, h6⟩ := h
  have k1 := Ex.len_size h6; have k2 := isName_len h1; have k3 := isName_len h2
  have k4 := s.tree_small; have k5 := t.tree_small; have k6 := s.size_pos; have k7 := t.size_pos
  simp only [Ex.tree, Tree.len, lenL, List.isEmpty_nil, List.isEmpty_cons, cond_true, cond_false, Ex.size, tFun, List.length_cons, List.length_nil]; omega
 | .un o a, h => by
  have h1 := Ex.len_size (e := a) h; have h3 := o.txt_len
  simp only [Ex.tree, Tree.len, lenL, List.isEmpty_nil, List.isEmpty_cons, cond_true, cond_false, Ex.size]; omega
/-- The plain one of an expression. -/
def Ex.plain (e : Ex) : Ex := (e.pl e.free [] [] 0).1
theorem addAll_len' (l m : List Txt) : (addAll l m).length ≤ l.length + m.length := by
 induction m generalizing l with
 | nil => exact Nat.le_refl _
 | cons s m ih =>
  have h1 : (addOnce l s).length ≤ l.length + 1 := by unfold addOnce; split <;> simp
  have h2 := ih (addOnce l s)
  simp only [addAll, List.foldl_cons, List.length_cons] at *
  omega
theorem plain_room {e : Ex} (h : e.size ≤ 120) : e.nb + e.free.length ≤ 80 := by
 have h1 := e.nb_occ []
 have h2 := addAll_len' [] (e.occ [])
 simp only [List.length_nil, Nat.zero_add] at h2
 have h3 : e.free.length ≤ (e.occ []).length := h2
 omega
theorem plain_fine {e : Ex} (h : e.fine = true) : e.plain.fine = true := by
 simp only [Ex.fine, Bool.and_eq_true, decide_eq_true_eq, Tree.fits] at h
 obtain ⟨h1, h2, h3⟩ := e.pl_size e.free [] [] 0
 have hr := plain_room h.1.2
 have hok : e.plain.ok = true := Ex.pl_ok h.1.1 (fun s hs => by cases hs) rfl (by omega)
 have hl := Ex.len_size hok
 have h4 : e.plain.size = e.size := h1
 have h5 : e.plain.tree.depth = e.tree.depth := h2
 simp only [Ex.fine, Bool.and_eq_true, decide_eq_true_eq, Tree.fits]
 exact ⟨⟨hok, by omega⟩, by omega, by omega⟩
def plainOf (s : Txt) : Option Txt := (exOf s).map fun e => e.plain.tree.text
theorem plainOf_some {s : Txt} {e : Ex} (h : exOf s = some e) : plainOf s = some e.plain.tree.text := by unfold plainOf; rw [h]; rfl
theorem plainOf_none {s : Txt} (h : exOf s = none) : plainOf s = none := by unfold plainOf; rw [h]; rfl
end Go.Proofs.YtjhjhepjchdpgaaGreatDoor


/- Fresh plain names, by the reference. No conditions. -/
namespace Go.Proofs.YtjhjhepjchdpgaaGreatDoor
set_option maxRecDepth 100000
set_option linter.unusedVariables false
set_option linter.unusedSimpArgs false

def lookOr (l m : List Txt) (s : Txt) : Txt := match lastIdx l s with
 | some i => m.getD i []
 | none => s
theorem nm_len {n : Nat} (h : n < 1000) : (nm 120 n).length ≤ maxN := Ex.name_len (nm_name (by decide) h)
end Go.Proofs.YtjhjhepjchdpgaaGreatDoor


/- The shelf's law on numbers, laid at this program in plain words by the kit's lay-plain.mjs. No conditions. -/
namespace Go.Proofs.YtjhjhepjchdpgaaGreatDoor
open Go.Shelf
def lays171_ren : Go.Shelf.Ren := ⟨fun | 171 => 109 | 243 => 114 | 246 => 116 | 283 => 118 | 284 => 119 | 285 => 120 | 286 => 121 | 129 => 123 | 317 => 122 | 318 => 124 | 319 => 125 | 320 => 126 | 337 => 127 | 338 => 128 | n => n, fun | 3 => 3 | 9 => 9 | 2 => 2 | 4 => 4 | 171 => 136 | 0 => 0 | 53 => 137 | 37 => 22 | 5 => 5 | 173 => 140 | 212 => 143 | 51 => 144 | 20 => 20 | 213 => 145 | 46 => 147 | 232 => 150 | 233 => 151 | n => n, fun | 17 => 0 | 18 => 1 | 19 => 2 | n => n⟩
theorem lays171 : Go.Proofs.Lays.n171 Tryz.prog lays171_ren := {
 mixed := by kernel_rfl
 f129 := Tryz.func123.trans (congrArg some (by kernel_rfl))
 f171 := Tryz.func109.trans (congrArg some (by kernel_rfl))
 f243 := Tryz.func114.trans (congrArg some (by kernel_rfl))
 f246 := Tryz.func116.trans (congrArg some (by kernel_rfl))
 f283 := Tryz.func118.trans (congrArg some (by kernel_rfl))
 f284 := Tryz.func119.trans (congrArg some (by kernel_rfl))
 f285 := Tryz.func120.trans (congrArg some (by kernel_rfl))
 f286 := Tryz.func121.trans (congrArg some (by kernel_rfl))
 f317 := Tryz.func122.trans (congrArg some (by kernel_rfl))
 f318 := Tryz.func124.trans (congrArg some (by kernel_rfl))
 f319 := Tryz.func125.trans (congrArg some (by kernel_rfl))
 f320 := Tryz.func126.trans (congrArg some (by kernel_rfl))
 f337 := Tryz.func127.trans (congrArg some (by kernel_rfl))
 f338 := Tryz.func128.trans (congrArg some (by kernel_rfl))
 t0 := Tryz.underlying0
 a0 := Tryz.isAgg0
 z0 := Tryz.sizeOf0
 v0 := Tryz.zeroValue0
 t2 := Tryz.underlying2
 a2 := Tryz.isAgg2
 z2 := Tryz.sizeOf2
 v2 := Tryz.zeroValue2
 t3 := Tryz.underlying3
 a3 := Tryz.isAgg3
 z3 := Tryz.sizeOf3
 v3 := Tryz.zeroValue3
 t4 := Tryz.underlying4
 a4 := Tryz.isAgg4
 z4 := Tryz.sizeOf4
 v4 := Tryz.zeroValue4
 t5 := Tryz.underlying5
 a5 := Tryz.isAgg5
 z5 := Tryz.sizeOf5
 v5 := Tryz.zeroValue5
 t9 := Tryz.underlying9
 a9 := Tryz.isAgg9
 z9 := Tryz.sizeOf9
 v9 := Tryz.zeroValue9
 t20 := Tryz.underlying20
 a20 := Tryz.isAgg20
 z20 := Tryz.sizeOf20
 v20 := Tryz.zeroValue20
 t37 := Tryz.underlying22
 a37 := Tryz.isAgg22
 z37 := Tryz.sizeOf22
 v37 := Tryz.zeroValue22
 t46 := Tryz.underlying147
 a46 := Tryz.isAgg147
 z46 := Tryz.sizeOf147
 v46 := Tryz.zeroValue147
 t51 := Tryz.underlying144
 a51 := Tryz.isAgg144
 z51 := Tryz.sizeOf144
 v51 := Tryz.zeroValue144
 t53 := Tryz.underlying137
 a53 := Tryz.isAgg137
 z53 := Tryz.sizeOf137
 v53 := Tryz.zeroValue137
 t171 := Tryz.underlying136
 a171 := Tryz.isAgg136
 z171 := Tryz.sizeOf136
 v171 := Tryz.zeroValue136
 t173 := Tryz.underlying140
 a173 := Tryz.isAgg140
 z173 := Tryz.sizeOf140
 v173 := Tryz.zeroValue140
 t212 := Tryz.underlying143
 a212 := Tryz.isAgg143
 z212 := Tryz.sizeOf143
 v212 := Tryz.zeroValue143
 t213 := Tryz.underlying145
 a213 := Tryz.isAgg145
 z213 := Tryz.sizeOf145
 t232 := Tryz.underlying150
 a232 := Tryz.isAgg150
 z232 := Tryz.sizeOf150
 v232 := Tryz.zeroValue150
 t233 := Tryz.underlying151
 a233 := Tryz.isAgg151
 z233 := Tryz.sizeOf151
 v233 := Tryz.zeroValue151
 g17 := by kernel_rfl
 g18 := by kernel_rfl
 g19 := by kernel_rfl }
end Go.Proofs.YtjhjhepjchdpgaaGreatDoor


/- Small numbers in decimals, by the library. No conditions. -/
namespace Go.Proofs.YtjhjhepjchdpgaaGreatDoor
set_option maxRecDepth 100000
set_option linter.unusedVariables false
set_option linter.unusedSimpArgs false

theorem dec_small : ∀ i : Nat, i < 100 → Lib.decDigits i = decT i := by decide +kernel
theorem f_strconv_Itoa (i : Nat) (hi : i < 100) (I : Heap) (L : Own) : Fun Tryz.prog 109 [.int .i64 (i : Nat)] I L (Only (.string (str (decT i))) I L) := by
 refine ⟨fun w hm => (Any.strconv_Itoa_small lays171 i hi w).mono ?_⟩
 rintro e w' ⟨rfl, rfl⟩
 refine ⟨_, I, L, rfl, .refl _, hm, ?_⟩
 rw [dec_small i hi]
 exact ⟨rfl, rfl, rfl⟩
end Go.Proofs.YtjhjhepjchdpgaaGreatDoor


/- Fresh plain names, by the program. No conditions. -/
namespace Go.Proofs.YtjhjhepjchdpgaaGreatDoor
set_option maxRecDepth 100000
set_option linter.unusedVariables false
set_option linter.unusedSimpArgs false

/-- The program's namer. -/
def pn (b : Nat) (oa : Option Addr) (av : List Txt) (c g n : Nat) : Nat × Obj := (b, .cells [.slice oa av.length c, .int .i64 (g : Nat), .int .i64 (n : Nat)].toArray 89 (0, 0))
theorem f_plainer_name {I : Heap} {oa : Option Addr} {av : List Txt} {c : Nat} (hav : Strs I oa av c) (b g n : Nat) (hn : fr 120 av n < 100) (hg : g ≤ 1000000) (L : Own) :
  Fun Tryz.prog 94 [.pointer (some ⟨b, 0, none⟩)] I (pn b oa av c g n :: L) (fun v I' L' => v = .string (str (nm 120 (fr 120 av n))) ∧ I = I' ∧ L' = pn b oa av c (g + 1) (fr 120 av n + 1) :: L) := by
 obtain ⟨f1, f2, f3⟩ := fr_facts 120 av n
 refine fun_intro (by simp) ?_
 refine Se rfl ?_
 refine Oa rfl ?_
 refine o_done ?_
 refine s_block ?_
 refine s_while (X := Nat) (fun m => fr 120 av n + 1 - m) (fun m => [(0, .pointer (some ⟨b, 0, none⟩))]) (fun _ => I) (fun m => pn b oa av c g m :: L) (fun m => n ≤ m ∧ m ≤ fr 120 av n ∧ ∀ j, n ≤ j → j < m → nm 120 j ∈ av) n ⟨Nat.le_refl _, f2, fun j h1 h2 => absurd h2 (by omega)⟩ ⟨rfl, trivial⟩ (fun _ h => h) ?_
 rintro m ⟨hm1, hm2, hm3⟩ ih
 unfold pn
 have hdl := decT_len (n := m) (by omega)
 refine s_block ?_
 refine Se rfl ?_
 refine Om rfl ?_
 refine o_nilCheck rfl .free rfl ?_
 first | refine o_fieldAddr rfl .free rfl ?_ | refine o_fieldAddr' rfl .free rfl ?_
 refine o_lJ rfl .free rfl ?_
 refine o_call rfl .free rfl (f_strconv_Itoa m (by omega) _ _) ?_
 rintro _ _ _ _ ⟨rfl, rfl, rfl⟩
 refine o_concat rfl rfl (by first | omega | (simp only [List.length_append, List.length_cons, List.length_nil]; omega) | (simp; omega)) .free rfl ?_
 refine Oa rfl ?_
 refine o_done ?_
 refine Se rfl ?_
 refine Om rfl ?_
 refine o_nilCheck rfl .free rfl ?_
 first | refine o_fieldAddr rfl .free rfl ?_ | refine o_fieldAddr' rfl .free rfl ?_
 refine o_lJ rfl .free rfl ?_
 refine o_arith rfl rfl rfl (by omega) .free rfl ?_
 refine o_nilCheck rfl .free rfl ?_
 first | refine o_fieldAddr rfl .free rfl ?_ | refine o_fieldAddr' rfl .free rfl ?_
 refine o_st rfl rfl rfl rfl .free ?_
 refine o_done ?_
 refine Se rfl ?_
 refine Om rfl ?_
 refine o_nilCheck rfl .free rfl ?_
 first | refine o_fieldAddr rfl .free rfl ?_ | refine o_fieldAddr' rfl .free rfl ?_
 refine o_lJ rfl .free rfl ?_
 refine Om rfl ?_
 refine o_call rfl .free rfl (f_slices_Contains (hav.rd _) c (nm 120 m)) ?_
 rintro _ _ _ _ ⟨rfl, rfl, rfl⟩
 refine o_not rfl .free rfl ?_
 refine o_done ?_
 refine s_cond rfl ?_ ?_
 ·intro c0
  try simp only [nb] at c0
  refine Se rfl ?_
  refine Om rfl ?_
  refine o_nilCheck rfl .free rfl ?_
  first | refine o_fieldAddr rfl .free rfl ?_ | refine o_fieldAddr' rfl .free rfl ?_
  refine o_lJ rfl .free rfl ?_
  refine o_arith rfl rfl rfl (by omega) .free rfl ?_
  refine o_nilCheck rfl .free rfl ?_
  first | refine o_fieldAddr rfl .free rfl ?_ | refine o_fieldAddr' rfl .free rfl ?_
  refine o_st rfl rfl rfl rfl .free ?_
  refine o_done ?_
  refine Se rfl ?_
  refine Om rfl ?_
  refine Oa rfl ?_
  refine o_done ?_
  refine s_ret (.tmp rfl .nil) ?_
  have hfm : fr 120 av n = m := fr_stop hm3 hm1 c0
  exact ⟨I, _, .refl _, fun _ h => h, by rw [hfm]; rfl, rfl, by rw [hfm]; rfl⟩
 intro c0
 try simp only [nb] at c0
 refine s_skip ?_
 refine s_inBlock ?_
 have hne : m ≠ fr 120 av n := fun e => f1 (e ▸ c0)
 refine s_env (E' := [(0, .pointer (some ⟨b, 0, none⟩))]) ⟨rfl, trivial⟩ (ih (m + 1) ⟨by omega, by omega, fun j h1 h2 => ?_⟩ (by omega))
 by_cases hj : j = m
 ·subst hj; exact c0
 ·exact hm3 j h1 (by omega)
end Go.Proofs.YtjhjhepjchdpgaaGreatDoor


/- An expression put for a name. No conditions. -/
namespace Go.Proofs.YtjhjhepjchdpgaaGreatDoor
set_option maxRecDepth 100000
set_option linter.unusedVariables false
set_option linter.unusedSimpArgs false

end Go.Proofs.YtjhjhepjchdpgaaGreatDoor


/- Plain names given to an expression, by the program. No conditions. -/
namespace Go.Proofs.YtjhjhepjchdpgaaGreatDoor
set_option maxRecDepth 100000
set_option linter.unusedVariables false
set_option linter.unusedSimpArgs false

def PE (b : Nat) (oa : Option Addr) (av : List Txt) (c g : Nat) (p : Ex × Nat) (L : Own) : Post := fun v I' L' => ∃ cs, v = .agg (List.toArray cs) ∧ Rep I' p.1.tree cs ∧ L' = pn b oa av c g p.2 :: L
set_option maxHeartbeats 2000000 in
theorem f_plainer_expr : ∀ (n : Nat) {I : Heap} {e : Ex} {cs : List Value} (_ : SizeOf.sizeOf e < n) (_ : Rep I e.tree cs) (_ : e.ok = true) {f t : List Txt} {of ot : Option Addr} {cf ct : Nat} (_ : Strs I of f cf) (_ : Strs I ot t ct) (_ : f.length = t.length) (_ : namesL f) (_ : f.length + 2 * e.size ≤ 100000)
  {oa : Option Addr} {av : List Txt} {c : Nat} (_ : Strs I oa av c) (b g k : Nat) (_ : k + e.nb + av.length ≤ 90 + hits 120 av k) (_ : g + e.nb ≤ 100000) (L : Own),
  Fun Tryz.prog 55 [.pointer (some ⟨b, 0, none⟩), .agg cs.toArray, .slice of f.length cf, .slice ot t.length ct] I (pn b oa av c g k :: L) (PE b oa av c (g + e.nb) (e.pl av f t k) L) := by
 intro n
 induction n with
 | zero => intro I e cs h; omega
 | succ n ihn =>
  intro I e cs hlt h hok f t of ot cf ct hfr hto hft hnf hfl ov av cv hav bp g k hk hg L
  obtain ⟨oa, c, oaf, cf1, rfl, hf, hcl, hcs⟩ := h.cells
  have hle : HLe I I := .refl _
  have ha := hf.alen
  have hh0 := hits_le 120 av k
  refine fun_intro (by simp) ?_
  refine Se rfl ?_
  refine o_box rfl rfl .free rfl ?_
  intro b5
  refine o_alloc .free rfl ?_
  intro b8
  refine o_done ?_
  refine s_seq ?_
  refine Se rfl ?_
  refine o_lOS rfl .free rfl ?_
  refine o_call rfl .free rfl (f_form_isAtom hf.rep _) ?_
  rintro _ _ _ _ ⟨rfl, rfl, rfl⟩
  refine o_done ?_
  refine s_cond rfl ?_ ?_
  ·intro c0
   try simp only [nb] at c0
   have hb : e.bare = true := by rw [Ex.bare_parts]; exact c0
   refine s_seq ?_
   refine Se rfl ?_
   refine Om rfl ?_
   refine o_fieldAddr rfl .free rfl ?_
   refine o_lO1 rfl .free rfl ?_
   refine o_call rfl .free rfl (f_lastIndex hfr e.tree.atom _) ?_
   rintro _ _ _ _ ⟨rfl, rfl, rfl⟩
   refine Oa rfl ?_
   refine o_done ?_
   refine Se rfl ?_
   refine Om rfl ?_
   refine o_cmp rfl rfl rfl .free rfl ?_
   refine o_done ?_
   refine s_cond rfl ?_ ?_
   ·intro c1
    try simp only [nb] at c1
    obtain ⟨i, hi⟩ : ∃ i, lastIdx f e.tree.atom = some i := by
     cases hi : lastIdx f e.tree.atom with
     | none => rw [hi] at c1; simp [idxVal] at c1
     | some i => exact ⟨i, rfl⟩
    have hil := (lastAt_lt (show lastAt f e.tree.atom f.length = some i from hi)).1
    have hit : i < t.length := by omega
    have hst := hto.st i hit
    rw [hi]
    refine Se rfl ?_
    refine Om rfl ?_
    refine Om rfl ?_
    first | refine o_ixD rfl rfl _ rfl .free rfl ?_ | refine o_ixP rfl rfl _ rfl .free rfl ?_
    refine o_lI1 rfl .free rfl ?_
    refine o_call rfl .free rfl (f_atom (t.getD i []) (by rw [show t.getD i [] = t[i] by simp [hit]]; exact hto.each _ (List.getElem_mem _)) _ _) ?_
    rintro _ _ _ _ ⟨rfl, rfl, rfl⟩
    refine o_st rfl rfl rfl rfl .free ?_
    refine o_done ?_
    refine s_ret (.c rfl .nil) ?_
    cases e with
    | name s =>
     have hi : lastIdx f s = some i := hi
     refine ⟨I, _, .refl _, fun w h => Mem.sub (L' := pn bp ov av cv g k :: L) (by repeat (first | exact List.Sublist.refl _ | apply List.Sublist.cons_cons | apply List.Sublist.cons)) h, _, rfl, ?_, rfl⟩
     show Rep I (.node (match lastIdx f s with | some i => t.getD i [] | none => s) []) _
     rw [hi]
     exact .ofAtom (show (t.getD i []).length ≤ maxN by rw [show t.getD i [] = t[i] by simp [hit]]; exact hto.each _ (List.getElem_mem _))
    | num s =>
     have h1 := name_not_num (hnf s (lastAt_mem hi))
     rw [show isNum s = true from hok] at h1; cases h1
    | _ => cases hb
   intro c1
   try simp only [nb] at c1
   refine s_skip ?_
   refine Se rfl ?_
   refine o_lOS rfl .free rfl ?_
   refine o_st rfl rfl rfl rfl .free ?_
   refine o_done ?_
   refine s_ret (.c rfl .nil) ?_
   cases e with
   | name s =>
    have hi : lastIdx f s = none := by
     cases hi : lastIdx f s with
     | none => rfl
     | some i => rw [show lastIdx f (Ex.name s).tree.atom = some i from hi] at c1; simp [idxVal] at c1
    refine ⟨I, _, .refl _, fun w h => Mem.sub (L' := pn bp ov av cv g k :: L) (by repeat (first | exact List.Sublist.refl _ | apply List.Sublist.cons_cons | apply List.Sublist.cons)) h, _, rfl, ?_, rfl⟩
    show Rep I (.node (match lastIdx f s with | some i => t.getD i [] | none => s) []) _
    rw [hi]; exact hf.rep
   | num s => exact ⟨I, _, .refl _, fun w h => Mem.sub (L' := pn bp ov av cv g k :: L) (by repeat (first | exact List.Sublist.refl _ | apply List.Sublist.cons_cons | apply List.Sublist.cons)) h, _, rfl, hf.rep, rfl⟩
   | _ => cases hb
  intro c0
  try simp only [nb] at c0
  have hb : e.bare = false := by rw [Ex.bare_parts]; exact c0
  have hsh := e.shapes hb
  have hok0 := hok
  have hpos : 0 < e.tree.parts.length := by
   rw [Ex.bare_parts] at hb
   have : e.tree.parts ≠ [] := by intro hh; rw [hh] at hb; cases hb
   exact List.length_pos_iff.2 this
  obtain ⟨xa, rfl⟩ : ∃ xa, oa = some xa := ⟨_, some_oad hf.nil hpos⟩
  have hp := hf.len
  refine s_skip ?_
  refine Se rfl ?_
  refine o_fieldAddr rfl .free rfl ?_
  refine o_lO1 rfl .free rfl ?_
  refine o_call rfl .free rfl (f_slices_Clone (hcs _ rfl) (by have := hcl.length; omega) hcl.plain hpos hp _) ?_
  rintro _ _ _ _ ⟨bc, sp, cc, rfl, hcc, rfl, rfl⟩
  refine o_struct rfl rfl rfl .free rfl ?_
  refine o_alloc .free rfl ?_
  intro b10
  refine o_st rfl rfl rfl rfl .free ?_
  refine o_done ?_
  refine s_seq ?_
  rcases hsh with ⟨o, a, b, rfl⟩ | ⟨a, b, d, rfl⟩ | ⟨z, a, b, rfl⟩ | ⟨h1, z, s, u, b, rfl⟩ | ⟨o, a, rfl⟩
  ·skip
   have hlen : (Ex.bin o a b).tree.parts.length = 3 := rfl
   have hki := kids_bin o a b
   have hhd : (Ex.bin o a b).tree.head = o.txt := rfl
   simp only [Ex.bin.sizeOf_spec] at hlt
   simp only [Ex.ok, Bool.and_eq_true, decide_eq_true_eq] at hok
   simp only [Ex.nb] at hk hg ⊢
   simp only [Ex.size] at hfl
   obtain ⟨_, hrl⟩ : ∃ _ : True, RepL I (Ex.bin o a b).tree.parts _ := ⟨trivial, hcl⟩
   simp only [show (Ex.bin o a b).tree.parts = [.node o.txt [], a.tree, b.tree] from rfl, cellsF, List.cons_append, List.nil_append] at hrl ⊢
   refine s_mem (fun w h => h.f4) ?_
   refine o_enter rfl ?_
   refine Oa rfl ?_
   refine o_done ?_
   refine s_seq ?_
   refine Se rfl ?_
   refine o_lOS rfl .free rfl ?_
   refine o_call rfl .free rfl (f_form_head hf.rep _) ?_
   rintro _ _ _ _ ⟨rfl, rfl, rfl⟩
   refine o_done ?_
   refine s_block ?_
   refine Se rfl ?_
   refine o_cmps rfl rfl rfl .free rfl ?_
   refine Oa rfl ?_
   refine o_done ?_
   first | refine s_fp rfl (by rw [hhd]; cases o <;> decide) ?_ | refine s_fn rfl (by rw [hhd]; cases o <;> decide) ?_ | refine s_false (by simp [look, opd, *]) ?_
   refine Se rfl ?_
   refine o_cmps rfl rfl rfl .free rfl ?_
   refine Oa rfl ?_
   refine o_done ?_
   first | refine s_fp rfl (by rw [hhd]; cases o <;> decide) ?_ | refine s_fn rfl (by rw [hhd]; cases o <;> decide) ?_ | refine s_false (by simp [look, opd, *]) ?_
   refine s_skip ?_
   refine s_inBlock ?_
   refine s_seq ?_
   refine Se rfl ?_
   refine o_lOS rfl .free rfl ?_
   refine o_call rfl .free rfl (f_form_kids hf.rep _) ?_
   rintro _ J _ e0 ⟨ok, ck, rfl, hk1, rfl⟩
   have hf := hf.mono e0
   have hfr := hfr.mono e0
   have hto := hto.mono e0
   have hav := hav.mono e0
   have hle := hle.trans e0
   rw [hki] at hk1
   rw [hki]
   refine o_len_slice rfl .free rfl ?_
   refine Om rfl ?_
   refine o_done ?_
   refine s_block ?_
   refine s_loop ?_
   refine Se rfl ?_
   refine o_cmp rfl rfl rfl .free rfl ?_
   refine o_done ?_
   refine s_seq ?_
   refine s_condT rfl (by first | rfl | decide | (simp; done) | omega) ?_
   refine s_skip ?_
   refine s_seq ?_
   refine s_block ?_
   refine Se rfl ?_
   first | refine o_ixD rfl rfl _ rfl .free rfl ?_ | refine o_ixP rfl rfl _ rfl .free rfl ?_
   refine o_lI1 rfl .free rfl ?_
   refine Oa rfl ?_
   refine o_done ?_
   refine Se rfl ?_
   refine Om rfl ?_
   refine Om rfl ?_
   refine Oa rfl ?_
   refine Oa rfl ?_
   refine o_done ?_
   refine s_seq ?_
   refine Se rfl ?_
   refine o_lOS rfl .free rfl ?_
   refine Om rfl ?_
   refine o_call rfl .free rfl (f_form_bound hf.rep hok0 _ _) ?_
   rintro _ J1 _ e1 ⟨o1, k1, rfl, hs1, rfl⟩
   have hf := hf.mono e1
   have hfr := hfr.mono e1
   have hto := hto.mono e1
   have hav := hav.mono e1
   have hle := hle.trans e1
   have hk1 := hk1.mono e1
   refine Oa rfl ?_
   refine o_done ?_
   refine Se rfl ?_
   refine Om rfl ?_
   refine o_len_slice rfl .free rfl ?_
   refine o_cmp rfl rfl rfl .free rfl ?_
   refine o_done ?_
   first | refine s_fp rfl (by simp [Ex.binds]) ?_ | refine s_fn rfl (by simp [Ex.binds]) ?_ | refine s_false (by simp [look, opd, *]) ?_
   refine s_skip ?_
   refine s_here fun hlr => ?_
   have hpl := a.pl_hits av (f) (t) k
   refine d_tl 14 rfl rfl ?_
   refine Da 0 rfl (y_fieldAddr rfl) ?_
   refine Dt 1 [13] rfl (y_lO1 rfl) ?_
   refine Da 2 rfl (y_move rfl) ?_
   refine Da 3 rfl (y_move rfl) ?_
   refine Da 4 rfl (y_fieldAddr rfl) ?_
   refine Dt 5 [13] rfl (y_lO1 rfl) ?_
   refine Da 6 rfl (y_move rfl) ?_
   first | refine Da 7 rfl (y_ixD rfl rfl _ rfl) ?_ | refine Da 7 rfl (y_ixP rfl rfl _ rfl) ?_
   refine Dt 8 [13] rfl (y_lIS rfl) ?_
   refine Da 9 rfl (y_move rfl) ?_
   refine Da 10 rfl (y_move rfl) ?_
   refine d_call 11 rfl (by kernel_rfl) rfl rfl .free rfl (ihn (f := f) (t := t) (by omega) (hf.as 1 a.tree (by omega) rfl) hok.1 hfr hto (by simp [hft]) hnf (by first | omega | (simp only [List.length_append, List.length_cons, List.length_nil]; omega)) hav bp _ _ (by omega) (by omega) _) ?_
   rintro _ J2 _ e2 ⟨cs2, rfl, hr_0, rfl⟩
   obtain ⟨o2, k2, _, rfl, -⟩ := hr_0.open
   have hlr := hlr.trans e2
   have hf := hf.mono e2
   have hfr := hfr.mono e2
   have hto := hto.mono e2
   have hav := hav.mono e2
   have hle := hle.trans e2
   have hk1 := hk1.mono e2
   refine ⟨(.inr heldx), ?_⟩
   first | refine Da 12 rfl (y_ixD rfl rfl _ rfl) ?_ | refine Da 12 rfl (y_ixP rfl rfl _ rfl) ?_
   refine d_st 13 rfl (by kernel_rfl) rfl rfl rfl rfl rfl .free (.inl (by kernel_rfl)) ?_
   refine d_done (by kernel_rfl) ?_
   refine s_inBlock ?_
   refine o_enter rfl ?_
   refine o_arith rfl rfl rfl (by omega) .free rfl ?_
   refine Om rfl ?_
   refine o_done ?_
   refine s_round ?_
   refine Se rfl ?_
   refine o_cmp rfl rfl rfl .free rfl ?_
   refine o_done ?_
   refine s_seq ?_
   refine s_condT rfl (by first | rfl | decide | (simp; done) | omega) ?_
   refine s_skip ?_
   refine s_seq ?_
   refine s_block ?_
   refine Se rfl ?_
   first | refine o_ixD rfl rfl _ rfl .free rfl ?_ | refine o_ixP rfl rfl _ rfl .free rfl ?_
   refine o_lI1 rfl .free rfl ?_
   refine Oa rfl ?_
   refine o_done ?_
   refine Se rfl ?_
   refine Om rfl ?_
   refine Om rfl ?_
   refine Oa rfl ?_
   refine Oa rfl ?_
   refine o_done ?_
   refine s_seq ?_
   refine Se rfl ?_
   refine o_lOS rfl .free rfl ?_
   refine Om rfl ?_
   refine o_call rfl .free rfl (f_form_bound hf.rep hok0 _ _) ?_
   rintro _ J1 _ e1 ⟨o1, k1, rfl, hs1, rfl⟩
   have hf := hf.mono e1
   have hfr := hfr.mono e1
   have hto := hto.mono e1
   have hav := hav.mono e1
   have hle := hle.trans e1
   have hk1 := hk1.mono e1
   have hr_0 := hr_0.mono e1
   refine Oa rfl ?_
   refine o_done ?_
   refine Se rfl ?_
   refine Om rfl ?_
   refine o_len_slice rfl .free rfl ?_
   refine o_cmp rfl rfl rfl .free rfl ?_
   refine o_done ?_
   first | refine s_fp rfl (by simp [Ex.binds]) ?_ | refine s_fn rfl (by simp [Ex.binds]) ?_ | refine s_false (by simp [look, opd, *]) ?_
   refine s_skip ?_
   refine s_here fun hlr => ?_
   have hpl := b.pl_hits av (f) (t) (a.pl av (f) (t) k).2
   refine d_tl 14 rfl rfl ?_
   refine Da 0 rfl (y_fieldAddr rfl) ?_
   refine Dt 1 [13] rfl (y_lO1 rfl) ?_
   refine Da 2 rfl (y_move rfl) ?_
   refine Da 3 rfl (y_move rfl) ?_
   refine Da 4 rfl (y_fieldAddr rfl) ?_
   refine Dt 5 [13] rfl (y_lO1 rfl) ?_
   refine Da 6 rfl (y_move rfl) ?_
   first | refine Da 7 rfl (y_ixD rfl rfl _ rfl) ?_ | refine Da 7 rfl (y_ixP rfl rfl _ rfl) ?_
   refine Dt 8 [13] rfl (y_lIS rfl) ?_
   refine Da 9 rfl (y_move rfl) ?_
   refine Da 10 rfl (y_move rfl) ?_
   refine d_call 11 rfl (by kernel_rfl) rfl rfl .free rfl (ihn (f := f) (t := t) (by omega) (hf.as 2 b.tree (by omega) rfl) hok.2 hfr hto (by simp [hft]) hnf (by first | omega | (simp only [List.length_append, List.length_cons, List.length_nil]; omega)) hav bp _ _ (by omega) (by omega) _) ?_
   rintro _ J2 _ e2 ⟨cs2, rfl, hr_1, rfl⟩
   obtain ⟨o2, k2, _, rfl, -⟩ := hr_1.open
   have hlr := hlr.trans e2
   have hf := hf.mono e2
   have hfr := hfr.mono e2
   have hto := hto.mono e2
   have hav := hav.mono e2
   have hle := hle.trans e2
   have hk1 := hk1.mono e2
   have hr_0 := hr_0.mono e2
   refine ⟨(.inr heldx), ?_⟩
   first | refine Da 12 rfl (y_ixD rfl rfl _ rfl) ?_ | refine Da 12 rfl (y_ixP rfl rfl _ rfl) ?_
   refine d_st 13 rfl (by kernel_rfl) rfl rfl rfl rfl rfl .free (.inl (by kernel_rfl)) ?_
   refine d_done (by kernel_rfl) ?_
   refine s_inBlock ?_
   refine o_enter rfl ?_
   refine o_arith rfl rfl rfl (by omega) .free rfl ?_
   refine Om rfl ?_
   refine o_done ?_
   refine s_round ?_
   refine Se rfl ?_
   refine o_cmp rfl rfl rfl .free rfl ?_
   refine o_done ?_
   refine s_seq ?_
   refine s_condF rfl (by first | rfl | decide | (simp; done) | omega) ?_
   refine s_exit rfl ?_
   refine Se rfl ?_
   refine o_lOS rfl .free rfl ?_
   refine o_st rfl rfl rfl rfl .free ?_
   refine o_done ?_
   refine s_mem (fun w h => h.f2) (s_freeze ?_)
   intro hz
   have hf := hf.mono hz
   refine s_ret (.c rfl .nil) ?_
   exact ⟨_, _, hle.trans hz, fun w h => Mem.sub (L' := pn bp ov av cv _ _ :: L) (by repeat (first | exact List.Sublist.refl _ | apply List.Sublist.cons_cons | apply List.Sublist.cons)) h, _, rfl, .mk' rfl (.cons (hf.as 0 (.node o.txt []) (by omega) rfl) (.cons (hr_0.mono hz) (.cons (hr_1.mono hz) (.nil)))) (fun y hy => by cases hy; exact still_set (xs := [_, _, _, _, _, _])) (by simp) hcc (by simp [maxN]) (by simp [maxN]), by first | rfl | (simp only [Nat.add_assoc]; rfl)⟩
  ·skip
   have hlen : (Ex.ite a b d).tree.parts.length = 4 := rfl
   have hki := kids_ite a b d
   have hhd : (Ex.ite a b d).tree.head = tIf := rfl
   simp only [Ex.ite.sizeOf_spec] at hlt
   simp only [Ex.ok, Bool.and_eq_true, decide_eq_true_eq] at hok
   simp only [Ex.nb] at hk hg ⊢
   simp only [Ex.size] at hfl
   obtain ⟨_, hrl⟩ : ∃ _ : True, RepL I (Ex.ite a b d).tree.parts _ := ⟨trivial, hcl⟩
   simp only [show (Ex.ite a b d).tree.parts = [.node tIf [], a.tree, b.tree, d.tree] from rfl, cellsF, List.cons_append, List.nil_append] at hrl ⊢
   refine s_mem (fun w h => h.f4) ?_
   refine o_enter rfl ?_
   refine Oa rfl ?_
   refine o_done ?_
   refine s_seq ?_
   refine Se rfl ?_
   refine o_lOS rfl .free rfl ?_
   refine o_call rfl .free rfl (f_form_head hf.rep _) ?_
   rintro _ _ _ _ ⟨rfl, rfl, rfl⟩
   refine o_done ?_
   refine s_block ?_
   refine Se rfl ?_
   refine o_cmps rfl rfl rfl .free rfl ?_
   refine Oa rfl ?_
   refine o_done ?_
   first | refine s_fp rfl (by rw [hhd]; decide) ?_ | refine s_fn rfl (by rw [hhd]; decide) ?_ | refine s_false (by simp [look, opd, *]) ?_
   refine Se rfl ?_
   refine o_cmps rfl rfl rfl .free rfl ?_
   refine Oa rfl ?_
   refine o_done ?_
   first | refine s_fp rfl (by rw [hhd]; decide) ?_ | refine s_fn rfl (by rw [hhd]; decide) ?_ | refine s_false (by simp [look, opd, *]) ?_
   refine s_skip ?_
   refine s_inBlock ?_
   refine s_seq ?_
   refine Se rfl ?_
   refine o_lOS rfl .free rfl ?_
   refine o_call rfl .free rfl (f_form_kids hf.rep _) ?_
   rintro _ J _ e0 ⟨ok, ck, rfl, hk1, rfl⟩
   have hf := hf.mono e0
   have hfr := hfr.mono e0
   have hto := hto.mono e0
   have hav := hav.mono e0
   have hle := hle.trans e0
   rw [hki] at hk1
   rw [hki]
   refine o_len_slice rfl .free rfl ?_
   refine Om rfl ?_
   refine o_done ?_
   refine s_block ?_
   refine s_loop ?_
   refine Se rfl ?_
   refine o_cmp rfl rfl rfl .free rfl ?_
   refine o_done ?_
   refine s_seq ?_
   refine s_condT rfl (by first | rfl | decide | (simp; done) | omega) ?_
   refine s_skip ?_
   refine s_seq ?_
   refine s_block ?_
   refine Se rfl ?_
   first | refine o_ixD rfl rfl _ rfl .free rfl ?_ | refine o_ixP rfl rfl _ rfl .free rfl ?_
   refine o_lI1 rfl .free rfl ?_
   refine Oa rfl ?_
   refine o_done ?_
   refine Se rfl ?_
   refine Om rfl ?_
   refine Om rfl ?_
   refine Oa rfl ?_
   refine Oa rfl ?_
   refine o_done ?_
   refine s_seq ?_
   refine Se rfl ?_
   refine o_lOS rfl .free rfl ?_
   refine Om rfl ?_
   refine o_call rfl .free rfl (f_form_bound hf.rep hok0 _ _) ?_
   rintro _ J1 _ e1 ⟨o1, k1, rfl, hs1, rfl⟩
   have hf := hf.mono e1
   have hfr := hfr.mono e1
   have hto := hto.mono e1
   have hav := hav.mono e1
   have hle := hle.trans e1
   have hk1 := hk1.mono e1
   refine Oa rfl ?_
   refine o_done ?_
   refine Se rfl ?_
   refine Om rfl ?_
   refine o_len_slice rfl .free rfl ?_
   refine o_cmp rfl rfl rfl .free rfl ?_
   refine o_done ?_
   first | refine s_fp rfl (by simp [Ex.binds]) ?_ | refine s_fn rfl (by simp [Ex.binds]) ?_ | refine s_false (by simp [look, opd, *]) ?_
   refine s_skip ?_
   refine s_here fun hlr => ?_
   have hpl := a.pl_hits av (f) (t) k
   refine d_tl 14 rfl rfl ?_
   refine Da 0 rfl (y_fieldAddr rfl) ?_
   refine Dt 1 [13] rfl (y_lO1 rfl) ?_
   refine Da 2 rfl (y_move rfl) ?_
   refine Da 3 rfl (y_move rfl) ?_
   refine Da 4 rfl (y_fieldAddr rfl) ?_
   refine Dt 5 [13] rfl (y_lO1 rfl) ?_
   refine Da 6 rfl (y_move rfl) ?_
   first | refine Da 7 rfl (y_ixD rfl rfl _ rfl) ?_ | refine Da 7 rfl (y_ixP rfl rfl _ rfl) ?_
   refine Dt 8 [13] rfl (y_lIS rfl) ?_
   refine Da 9 rfl (y_move rfl) ?_
   refine Da 10 rfl (y_move rfl) ?_
   refine d_call 11 rfl (by kernel_rfl) rfl rfl .free rfl (ihn (f := f) (t := t) (by omega) (hf.as 1 a.tree (by omega) rfl) hok.1.1 hfr hto (by simp [hft]) hnf (by first | omega | (simp only [List.length_append, List.length_cons, List.length_nil]; omega)) hav bp _ _ (by omega) (by omega) _) ?_
   rintro _ J2 _ e2 ⟨cs2, rfl, hr_0, rfl⟩
   obtain ⟨o2, k2, _, rfl, -⟩ := hr_0.open
   have hlr := hlr.trans e2
   have hf := hf.mono e2
   have hfr := hfr.mono e2
   have hto := hto.mono e2
   have hav := hav.mono e2
   have hle := hle.trans e2
   have hk1 := hk1.mono e2
   refine ⟨(.inr heldx), ?_⟩
   first | refine Da 12 rfl (y_ixD rfl rfl _ rfl) ?_ | refine Da 12 rfl (y_ixP rfl rfl _ rfl) ?_
   refine d_st 13 rfl (by kernel_rfl) rfl rfl rfl rfl rfl .free (.inl (by kernel_rfl)) ?_
   refine d_done (by kernel_rfl) ?_
   refine s_inBlock ?_
   refine o_enter rfl ?_
   refine o_arith rfl rfl rfl (by omega) .free rfl ?_
   refine Om rfl ?_
   refine o_done ?_
   refine s_round ?_
   refine Se rfl ?_
   refine o_cmp rfl rfl rfl .free rfl ?_
   refine o_done ?_
   refine s_seq ?_
   refine s_condT rfl (by first | rfl | decide | (simp; done) | omega) ?_
   refine s_skip ?_
   refine s_seq ?_
   refine s_block ?_
   refine Se rfl ?_
   first | refine o_ixD rfl rfl _ rfl .free rfl ?_ | refine o_ixP rfl rfl _ rfl .free rfl ?_
   refine o_lI1 rfl .free rfl ?_
   refine Oa rfl ?_
   refine o_done ?_
   refine Se rfl ?_
   refine Om rfl ?_
   refine Om rfl ?_
   refine Oa rfl ?_
   refine Oa rfl ?_
   refine o_done ?_
   refine s_seq ?_
   refine Se rfl ?_
   refine o_lOS rfl .free rfl ?_
   refine Om rfl ?_
   refine o_call rfl .free rfl (f_form_bound hf.rep hok0 _ _) ?_
   rintro _ J1 _ e1 ⟨o1, k1, rfl, hs1, rfl⟩
   have hf := hf.mono e1
   have hfr := hfr.mono e1
   have hto := hto.mono e1
   have hav := hav.mono e1
   have hle := hle.trans e1
   have hk1 := hk1.mono e1
   have hr_0 := hr_0.mono e1
   refine Oa rfl ?_
   refine o_done ?_
   refine Se rfl ?_
   refine Om rfl ?_
   refine o_len_slice rfl .free rfl ?_
   refine o_cmp rfl rfl rfl .free rfl ?_
   refine o_done ?_
   first | refine s_fp rfl (by simp [Ex.binds]) ?_ | refine s_fn rfl (by simp [Ex.binds]) ?_ | refine s_false (by simp [look, opd, *]) ?_
   refine s_skip ?_
   refine s_here fun hlr => ?_
   have hpl := b.pl_hits av (f) (t) (a.pl av (f) (t) k).2
   refine d_tl 14 rfl rfl ?_
   refine Da 0 rfl (y_fieldAddr rfl) ?_
   refine Dt 1 [13] rfl (y_lO1 rfl) ?_
   refine Da 2 rfl (y_move rfl) ?_
   refine Da 3 rfl (y_move rfl) ?_
   refine Da 4 rfl (y_fieldAddr rfl) ?_
   refine Dt 5 [13] rfl (y_lO1 rfl) ?_
   refine Da 6 rfl (y_move rfl) ?_
   first | refine Da 7 rfl (y_ixD rfl rfl _ rfl) ?_ | refine Da 7 rfl (y_ixP rfl rfl _ rfl) ?_
   refine Dt 8 [13] rfl (y_lIS rfl) ?_
   refine Da 9 rfl (y_move rfl) ?_
   refine Da 10 rfl (y_move rfl) ?_
   refine d_call 11 rfl (by kernel_rfl) rfl rfl .free rfl (ihn (f := f) (t := t) (by omega) (hf.as 2 b.tree (by omega) rfl) hok.1.2 hfr hto (by simp [hft]) hnf (by first | omega | (simp only [List.length_append, List.length_cons, List.length_nil]; omega)) hav bp _ _ (by omega) (by omega) _) ?_
   rintro _ J2 _ e2 ⟨cs2, rfl, hr_1, rfl⟩
   obtain ⟨o2, k2, _, rfl, -⟩ := hr_1.open
   have hlr := hlr.trans e2
   have hf := hf.mono e2
   have hfr := hfr.mono e2
   have hto := hto.mono e2
   have hav := hav.mono e2
   have hle := hle.trans e2
   have hk1 := hk1.mono e2
   have hr_0 := hr_0.mono e2
   refine ⟨(.inr heldx), ?_⟩
   first | refine Da 12 rfl (y_ixD rfl rfl _ rfl) ?_ | refine Da 12 rfl (y_ixP rfl rfl _ rfl) ?_
   refine d_st 13 rfl (by kernel_rfl) rfl rfl rfl rfl rfl .free (.inl (by kernel_rfl)) ?_
   refine d_done (by kernel_rfl) ?_
   refine s_inBlock ?_
   refine o_enter rfl ?_
   refine o_arith rfl rfl rfl (by omega) .free rfl ?_
   refine Om rfl ?_
   refine o_done ?_
   refine s_round ?_
   refine Se rfl ?_
   refine o_cmp rfl rfl rfl .free rfl ?_
   refine o_done ?_
   refine s_seq ?_
   refine s_condT rfl (by first | rfl | decide | (simp; done) | omega) ?_
   refine s_skip ?_
   refine s_seq ?_
   refine s_block ?_
   refine Se rfl ?_
   first | refine o_ixD rfl rfl _ rfl .free rfl ?_ | refine o_ixP rfl rfl _ rfl .free rfl ?_
   refine o_lI1 rfl .free rfl ?_
   refine Oa rfl ?_
   refine o_done ?_
   refine Se rfl ?_
   refine Om rfl ?_
   refine Om rfl ?_
   refine Oa rfl ?_
   refine Oa rfl ?_
   refine o_done ?_
   refine s_seq ?_
   refine Se rfl ?_
   refine o_lOS rfl .free rfl ?_
   refine Om rfl ?_
   refine o_call rfl .free rfl (f_form_bound hf.rep hok0 _ _) ?_
   rintro _ J1 _ e1 ⟨o1, k1, rfl, hs1, rfl⟩
   have hf := hf.mono e1
   have hfr := hfr.mono e1
   have hto := hto.mono e1
   have hav := hav.mono e1
   have hle := hle.trans e1
   have hk1 := hk1.mono e1
   have hr_0 := hr_0.mono e1
   have hr_1 := hr_1.mono e1
   refine Oa rfl ?_
   refine o_done ?_
   refine Se rfl ?_
   refine Om rfl ?_
   refine o_len_slice rfl .free rfl ?_
   refine o_cmp rfl rfl rfl .free rfl ?_
   refine o_done ?_
   first | refine s_fp rfl (by simp [Ex.binds]) ?_ | refine s_fn rfl (by simp [Ex.binds]) ?_ | refine s_false (by simp [look, opd, *]) ?_
   refine s_skip ?_
   refine s_here fun hlr => ?_
   have hpl := d.pl_hits av (f) (t) (b.pl av (f) (t) (a.pl av (f) (t) k).2).2
   refine d_tl 14 rfl rfl ?_
   refine Da 0 rfl (y_fieldAddr rfl) ?_
   refine Dt 1 [13] rfl (y_lO1 rfl) ?_
   refine Da 2 rfl (y_move rfl) ?_
   refine Da 3 rfl (y_move rfl) ?_
   refine Da 4 rfl (y_fieldAddr rfl) ?_
   refine Dt 5 [13] rfl (y_lO1 rfl) ?_
   refine Da 6 rfl (y_move rfl) ?_
   first | refine Da 7 rfl (y_ixD rfl rfl _ rfl) ?_ | refine Da 7 rfl (y_ixP rfl rfl _ rfl) ?_
   refine Dt 8 [13] rfl (y_lIS rfl) ?_
   refine Da 9 rfl (y_move rfl) ?_
   refine Da 10 rfl (y_move rfl) ?_
   refine d_call 11 rfl (by kernel_rfl) rfl rfl .free rfl (ihn (f := f) (t := t) (by omega) (hf.as 3 d.tree (by omega) rfl) hok.2 hfr hto (by simp [hft]) hnf (by first | omega | (simp only [List.length_append, List.length_cons, List.length_nil]; omega)) hav bp _ _ (by omega) (by omega) _) ?_
   rintro _ J2 _ e2 ⟨cs2, rfl, hr_2, rfl⟩
   obtain ⟨o2, k2, _, rfl, -⟩ := hr_2.open
   have hlr := hlr.trans e2
   have hf := hf.mono e2
   have hfr := hfr.mono e2
   have hto := hto.mono e2
   have hav := hav.mono e2
   have hle := hle.trans e2
   have hk1 := hk1.mono e2
   have hr_0 := hr_0.mono e2
   have hr_1 := hr_1.mono e2
   refine ⟨(.inr heldx), ?_⟩
   first | refine Da 12 rfl (y_ixD rfl rfl _ rfl) ?_ | refine Da 12 rfl (y_ixP rfl rfl _ rfl) ?_
   refine d_st 13 rfl (by kernel_rfl) rfl rfl rfl rfl rfl .free (.inl (by kernel_rfl)) ?_
   refine d_done (by kernel_rfl) ?_
   refine s_inBlock ?_
   refine o_enter rfl ?_
   refine o_arith rfl rfl rfl (by omega) .free rfl ?_
   refine Om rfl ?_
   refine o_done ?_
   refine s_round ?_
   refine Se rfl ?_
   refine o_cmp rfl rfl rfl .free rfl ?_
   refine o_done ?_
   refine s_seq ?_
   refine s_condF rfl (by first | rfl | decide | (simp; done) | omega) ?_
   refine s_exit rfl ?_
   refine Se rfl ?_
   refine o_lOS rfl .free rfl ?_
   refine o_st rfl rfl rfl rfl .free ?_
   refine o_done ?_
   refine s_mem (fun w h => h.f2) (s_freeze ?_)
   intro hz
   have hf := hf.mono hz
   refine s_ret (.c rfl .nil) ?_
   exact ⟨_, _, hle.trans hz, fun w h => Mem.sub (L' := pn bp ov av cv _ _ :: L) (by repeat (first | exact List.Sublist.refl _ | apply List.Sublist.cons_cons | apply List.Sublist.cons)) h, _, rfl, .mk' rfl (.cons (hf.as 0 (.node tIf []) (by omega) rfl) (.cons (hr_0.mono hz) (.cons (hr_1.mono hz) (.cons (hr_2.mono hz) (.nil))))) (fun y hy => by cases hy; exact still_set (xs := [_, _, _, _, _, _, _, _])) (by simp) hcc (by simp [maxN]) (by simp [maxN]), by first | rfl | (simp only [Nat.add_assoc]; rfl)⟩
  ·skip
   have hlen : (Ex.lt z a b).tree.parts.length = 4 := rfl
   have hki := kids_lt' z a b
   have hhd : (Ex.lt z a b).tree.head = tLet := rfl
   simp only [Ex.lt.sizeOf_spec] at hlt
   simp only [Ex.ok, Bool.and_eq_true, decide_eq_true_eq] at hok
   simp only [Ex.nb] at hk hg ⊢
   simp only [Ex.size] at hfl
   obtain ⟨_, hrl⟩ : ∃ _ : True, RepL I (Ex.lt z a b).tree.parts _ := ⟨trivial, hcl⟩
   simp only [show (Ex.lt z a b).tree.parts = [.node tLet [], .node z [], a.tree, b.tree] from rfl, cellsF, List.cons_append, List.nil_append] at hrl ⊢
   refine s_mem (fun w h => h.f4) ?_
   refine o_enter rfl ?_
   refine Oa rfl ?_
   refine o_done ?_
   refine s_seq ?_
   refine Se rfl ?_
   refine o_lOS rfl .free rfl ?_
   refine o_call rfl .free rfl (f_form_head hf.rep _) ?_
   rintro _ _ _ _ ⟨rfl, rfl, rfl⟩
   refine o_done ?_
   refine s_block ?_
   refine Se rfl ?_
   refine o_cmps rfl rfl rfl .free rfl ?_
   refine Oa rfl ?_
   refine o_done ?_
   first | refine s_tp rfl (by rw [hhd]; rfl) ?_ | refine s_tn rfl (by rw [hhd]; rfl) ?_ | refine s_true (by simp [look, opd, *]) ?_
   refine s_seq ?_
   obtain ⟨x1, x2, x3⟩ := fr_facts 120 av k
   have x4 := fr_hits_succ 120 av k
   have x5 := hits_le 120 av (fr 120 av k)
   have x6 := hits_le 120 av (fr 120 av k + 1)
   refine o_enter rfl ?_
   refine Om rfl ?_
   refine o_call rfl .free rfl (f_plainer_name hav bp g k (by omega) (by omega) _) ?_
   rintro _ _ _ _ ⟨rfl, rfl, rfl⟩
   have hnl1 := nm_len (n := fr 120 av k) (by omega)
   generalize hn1e : nm 120 (fr 120 av k) = n1 at hnl1 ⊢
   refine o_lits rfl rfl (by rfl) (by rfl) (by rfl) (by decide) (by decide) (by rfl) .free rfl ?_
   intro b41
   refine o_freezeLit [n1] (by simp [maxN]) (by intro y hy; rw [List.mem_singleton.1 hy]; exact hnl1) ?_
   intro J1 ez hnm
   have hn0 := hnm.st 0 (by simp)
   have hf := hf.mono ez
   have hfr := hfr.mono ez
   have hto := hto.mono ez
   have hav := hav.mono ez
   have hle := hle.trans ez
   refine Oa rfl ?_
   refine o_done ?_
   refine d_all 8 rfl rfl ?_
   refine Da 0 rfl (y_fieldAddr rfl) ?_
   refine Dt 1 [7] rfl (y_lO1 rfl) ?_
   refine Da 2 rfl (y_move rfl) ?_
   first | refine Da 3 rfl (y_ixD rfl rfl 0 rfl) ?_ | refine Da 3 rfl (y_ixP rfl rfl 0 rfl) ?_
   refine Dt 4 [7] rfl (y_lI1 rfl) ?_
   refine d_call 5 rfl (by kernel_rfl) rfl rfl .free rfl (f_atom n1 hnl1 _ _) ?_
   rintro _ _ _ _ ⟨rfl, rfl, rfl⟩
   refine ⟨(.inr heldx), ?_⟩
   first | refine Da 6 rfl (y_ixD rfl rfl 1 rfl) ?_ | refine Da 6 rfl (y_ixP rfl rfl 1 rfl) ?_
   refine d_st 7 rfl (by kernel_rfl) rfl rfl rfl rfl rfl .free (.inl (by kernel_rfl)) ?_
   refine d_done (by kernel_rfl) ?_
   refine s_inBlock ?_
   refine s_seq ?_
   refine Se rfl ?_
   refine o_lOS rfl .free rfl ?_
   refine o_call rfl .free rfl (f_form_kids hf.rep _) ?_
   rintro _ J _ e0 ⟨ok, ck, rfl, hk1, rfl⟩
   have hf := hf.mono e0
   have hfr := hfr.mono e0
   have hto := hto.mono e0
   have hav := hav.mono e0
   have hle := hle.trans e0
   rw [hki] at hk1
   rw [hki]
   have hnm := hnm.mono e0
   refine o_len_slice rfl .free rfl ?_
   refine Om rfl ?_
   refine o_done ?_
   refine s_block ?_
   refine s_loop ?_
   refine Se rfl ?_
   refine o_cmp rfl rfl rfl .free rfl ?_
   refine o_done ?_
   refine s_seq ?_
   refine s_condT rfl (by first | rfl | decide | (simp; done) | omega) ?_
   refine s_skip ?_
   refine s_seq ?_
   refine s_block ?_
   refine Se rfl ?_
   first | refine o_ixD rfl rfl _ rfl .free rfl ?_ | refine o_ixP rfl rfl _ rfl .free rfl ?_
   refine o_lI1 rfl .free rfl ?_
   refine Oa rfl ?_
   refine o_done ?_
   refine Se rfl ?_
   refine Om rfl ?_
   refine Om rfl ?_
   refine Oa rfl ?_
   refine Oa rfl ?_
   refine o_done ?_
   refine s_seq ?_
   refine Se rfl ?_
   refine o_lOS rfl .free rfl ?_
   refine Om rfl ?_
   refine o_call rfl .free rfl (f_form_bound hf.rep hok0 _ _) ?_
   rintro _ J1 _ e1 ⟨o1, k1, rfl, hs1, rfl⟩
   have hf := hf.mono e1
   have hfr := hfr.mono e1
   have hto := hto.mono e1
   have hav := hav.mono e1
   have hle := hle.trans e1
   have hk1 := hk1.mono e1
   have hnm := hnm.mono e1
   refine Oa rfl ?_
   refine o_done ?_
   refine Se rfl ?_
   refine Om rfl ?_
   refine o_len_slice rfl .free rfl ?_
   refine o_cmp rfl rfl rfl .free rfl ?_
   refine o_done ?_
   first | refine s_fp rfl (by simp [Ex.binds]) ?_ | refine s_fn rfl (by simp [Ex.binds]) ?_ | refine s_false (by simp [look, opd, *]) ?_
   refine s_skip ?_
   refine s_here fun hlr => ?_
   have hpl := a.pl_hits av (f) (t) (fr 120 av k + 1)
   refine d_tl 14 rfl rfl ?_
   refine Da 0 rfl (y_fieldAddr rfl) ?_
   refine Dt 1 [13] rfl (y_lO1 rfl) ?_
   refine Da 2 rfl (y_move rfl) ?_
   refine Da 3 rfl (y_move rfl) ?_
   refine Da 4 rfl (y_fieldAddr rfl) ?_
   refine Dt 5 [13] rfl (y_lO1 rfl) ?_
   refine Da 6 rfl (y_move rfl) ?_
   first | refine Da 7 rfl (y_ixD rfl rfl _ rfl) ?_ | refine Da 7 rfl (y_ixP rfl rfl _ rfl) ?_
   refine Dt 8 [13] rfl (y_lIS rfl) ?_
   refine Da 9 rfl (y_move rfl) ?_
   refine Da 10 rfl (y_move rfl) ?_
   refine d_call 11 rfl (by kernel_rfl) rfl rfl .free rfl (ihn (f := f) (t := t) (by omega) (hf.as 2 a.tree (by omega) rfl) hok.1.2 hfr hto (by simp [hft]) hnf (by first | omega | (simp only [List.length_append, List.length_cons, List.length_nil]; omega)) hav bp _ _ (by omega) (by omega) _) ?_
   rintro _ J2 _ e2 ⟨cs2, rfl, hr_0, rfl⟩
   obtain ⟨o2, k2, _, rfl, -⟩ := hr_0.open
   have hlr := hlr.trans e2
   have hf := hf.mono e2
   have hfr := hfr.mono e2
   have hto := hto.mono e2
   have hav := hav.mono e2
   have hle := hle.trans e2
   have hk1 := hk1.mono e2
   have hnm := hnm.mono e2
   refine ⟨(.inr heldx), ?_⟩
   first | refine Da 12 rfl (y_ixD rfl rfl _ rfl) ?_ | refine Da 12 rfl (y_ixP rfl rfl _ rfl) ?_
   refine d_st 13 rfl (by kernel_rfl) rfl rfl rfl rfl rfl .free (.inl (by kernel_rfl)) ?_
   refine d_done (by kernel_rfl) ?_
   refine s_inBlock ?_
   refine o_enter rfl ?_
   refine o_arith rfl rfl rfl (by omega) .free rfl ?_
   refine Om rfl ?_
   refine o_done ?_
   refine s_round ?_
   refine Se rfl ?_
   refine o_cmp rfl rfl rfl .free rfl ?_
   refine o_done ?_
   refine s_seq ?_
   refine s_condT rfl (by first | rfl | decide | (simp; done) | omega) ?_
   refine s_skip ?_
   refine s_seq ?_
   refine s_block ?_
   refine Se rfl ?_
   first | refine o_ixD rfl rfl _ rfl .free rfl ?_ | refine o_ixP rfl rfl _ rfl .free rfl ?_
   refine o_lI1 rfl .free rfl ?_
   refine Oa rfl ?_
   refine o_done ?_
   refine Se rfl ?_
   refine Om rfl ?_
   refine Om rfl ?_
   refine Oa rfl ?_
   refine Oa rfl ?_
   refine o_done ?_
   refine s_seq ?_
   refine Se rfl ?_
   refine o_lOS rfl .free rfl ?_
   refine Om rfl ?_
   refine o_call rfl .free rfl (f_form_bound hf.rep hok0 _ _) ?_
   rintro _ J1 _ e1 ⟨o1, k1, rfl, hs1, rfl⟩
   have hf := hf.mono e1
   have hfr := hfr.mono e1
   have hto := hto.mono e1
   have hav := hav.mono e1
   have hle := hle.trans e1
   have hk1 := hk1.mono e1
   have hr_0 := hr_0.mono e1
   have hnm := hnm.mono e1
   refine Oa rfl ?_
   refine o_done ?_
   refine Se rfl ?_
   refine Om rfl ?_
   refine o_len_slice rfl .free rfl ?_
   refine o_cmp rfl rfl rfl .free rfl ?_
   refine o_done ?_
   first | refine s_tp rfl (by simp [Ex.binds]) ?_ | refine s_tn rfl (by simp [Ex.binds]) ?_ | refine s_true (by simp [look, opd, *]) ?_
   refine o_enter rfl ?_
   refine Om rfl ?_
   refine Om rfl ?_
   refine o_lits rfl rfl (by rfl) (by rfl) (by rfl) (by decide) (by decide) (by rfl) .free rfl ?_
   intro b87
   refine o_freeze ?_
   intro ez
   have hf := hf.mono ez
   have hfr := hfr.mono ez
   have hto := hto.mono ez
   have hav := hav.mono ez
   have hle := hle.trans ez
   have hk1 := hk1.mono ez
   have hr_0 := hr_0.mono ez
   have hnm := hnm.mono ez
   refine o_call rfl .free rfl (f_slices_Concat (still_set (xs := [.slice of f.length cf, .slice o1 (List.length _) k1]) (ys := [])) hfr (hs1.mono ez) (Ex.binds_room0 (by omega)) _) ?_
   rintro _ J3 _ e3 ⟨o3, k3, rfl, hs3, rfl⟩
   have hf := hf.mono e3
   have hfr := hfr.mono e3
   have hto := hto.mono e3
   have hav := hav.mono e3
   have hle := hle.trans e3
   have hk1 := hk1.mono e3
   have hr_0 := hr_0.mono e3
   have hnm := hnm.mono e3
   refine Om rfl ?_
   refine Om rfl ?_
   refine o_lits rfl rfl (by rfl) (by rfl) (by rfl) (by decide) (by decide) (by rfl) .free rfl ?_
   intro b91
   refine o_freeze ?_
   intro ey
   have hf := hf.mono ey
   have hfr := hfr.mono ey
   have hto := hto.mono ey
   have hav := hav.mono ey
   have hle := hle.trans ey
   have hk1 := hk1.mono ey
   have hr_0 := hr_0.mono ey
   have hnm := hnm.mono ey
   have hs3 := hs3.mono ey
   refine o_call rfl .free rfl (f_slices_Concat (m := [n1]) (still_set (xs := [.slice ot t.length ct, .slice (some ⟨_, 0, none⟩) (List.length _) _]) (ys := [])) hto hnm (show t.length + 1 ≤ maxN by unfold maxN; omega) _) ?_
   rintro _ J4 _ e4 ⟨o4, k4, rfl, hs4, rfl⟩
   have hf := hf.mono e4
   have hfr := hfr.mono e4
   have hto := hto.mono e4
   have hav := hav.mono e4
   have hle := hle.trans e4
   have hk1 := hk1.mono e4
   have hr_0 := hr_0.mono e4
   have hnm := hnm.mono e4
   have hs3 := hs3.mono e4
   refine Oa rfl ?_
   refine Oa rfl ?_
   refine o_done ?_
   refine s_here fun hlr => ?_
   have hpl := b.pl_hits av (f ++ [z]) (t ++ [n1]) (a.pl av (f) (t) (fr 120 av k + 1)).2
   refine d_tl 14 rfl rfl ?_
   refine Da 0 rfl (y_fieldAddr rfl) ?_
   refine Dt 1 [13] rfl (y_lO1 rfl) ?_
   refine Da 2 rfl (y_move rfl) ?_
   refine Da 3 rfl (y_move rfl) ?_
   refine Da 4 rfl (y_fieldAddr rfl) ?_
   refine Dt 5 [13] rfl (y_lO1 rfl) ?_
   refine Da 6 rfl (y_move rfl) ?_
   first | refine Da 7 rfl (y_ixD rfl rfl _ rfl) ?_ | refine Da 7 rfl (y_ixP rfl rfl _ rfl) ?_
   refine Dt 8 [13] rfl (y_lIS rfl) ?_
   refine Da 9 rfl (y_move rfl) ?_
   refine Da 10 rfl (y_move rfl) ?_
   refine d_call 11 rfl (by kernel_rfl) rfl rfl .free rfl (ihn (f := f ++ [z]) (t := t ++ [n1]) (by omega) (hf.as 3 b.tree (by omega) rfl) hok.2 hs3 hs4 (by simp [hft]) (hnf.add (by intro y hy; rw [List.mem_singleton.1 hy]; exact hok.1.1)) (by first | omega | (simp only [List.length_append, List.length_cons, List.length_nil]; omega)) hav bp _ _ (by omega) (by omega) _) ?_
   rintro _ J2 _ e2 ⟨cs2, rfl, hr_1, rfl⟩
   obtain ⟨o2, k2, _, rfl, -⟩ := hr_1.open
   have hlr := hlr.trans e2
   have hf := hf.mono e2
   have hfr := hfr.mono e2
   have hto := hto.mono e2
   have hav := hav.mono e2
   have hle := hle.trans e2
   have hk1 := hk1.mono e2
   have hr_0 := hr_0.mono e2
   have hnm := hnm.mono e2
   refine ⟨(.inr heldx), ?_⟩
   first | refine Da 12 rfl (y_ixD rfl rfl _ rfl) ?_ | refine Da 12 rfl (y_ixP rfl rfl _ rfl) ?_
   refine d_st 13 rfl (by kernel_rfl) rfl rfl rfl rfl rfl .free (.inl (by kernel_rfl)) ?_
   refine d_done (by kernel_rfl) ?_
   refine s_inBlock ?_
   refine o_enter rfl ?_
   refine o_arith rfl rfl rfl (by omega) .free rfl ?_
   refine Om rfl ?_
   refine o_done ?_
   refine s_round ?_
   refine Se rfl ?_
   refine o_cmp rfl rfl rfl .free rfl ?_
   refine o_done ?_
   refine s_seq ?_
   refine s_condF rfl (by first | rfl | decide | (simp; done) | omega) ?_
   refine s_exit rfl ?_
   refine Se rfl ?_
   refine o_lOS rfl .free rfl ?_
   refine o_st rfl rfl rfl rfl .free ?_
   refine o_done ?_
   refine s_mem (fun w h => h.f2) (s_freeze ?_)
   intro hz
   have hf := hf.mono hz
   refine s_ret (.c rfl .nil) ?_
   subst hn1e
   exact ⟨_, _, hle.trans hz, fun w h => Mem.sub (L' := pn bp ov av cv _ _ :: L) (by repeat (first | exact List.Sublist.refl _ | apply List.Sublist.cons_cons | apply List.Sublist.cons)) h, _, rfl, .mk' rfl (.cons (hf.as 0 (.node tLet []) (by omega) rfl) (.cons (.ofAtom hnl1) (.cons (hr_0.mono hz) (.cons (hr_1.mono hz) (.nil))))) (fun y hy => by cases hy; exact still_set (xs := [_, _, _, _, _, _, _, _])) (by simp) hcc (by simp [maxN]) (by simp [maxN]), by first | rfl | (simp only [Nat.add_assoc]; rfl)⟩
  ·skip
   have hlen : (Ex.fn h1 z s u b).tree.parts.length = 6 := rfl
   have hki := kids_fn h1 z s u b
   have hhd : (Ex.fn h1 z s u b).tree.head = tFun := rfl
   simp only [Ex.fn.sizeOf_spec] at hlt
   simp only [Ex.ok, Bool.and_eq_true, decide_eq_true_eq] at hok
   simp only [Ex.nb] at hk hg ⊢
   simp only [Ex.size] at hfl
   obtain ⟨_, hrl⟩ : ∃ _ : True, RepL I (Ex.fn h1 z s u b).tree.parts _ := ⟨trivial, hcl⟩
   simp only [show (Ex.fn h1 z s u b).tree.parts = [.node tFun [], .node h1 [], .node z [], s.tree, u.tree, b.tree] from rfl, cellsF, List.cons_append, List.nil_append] at hrl ⊢
   refine s_mem (fun w h => h.f4) ?_
   refine o_enter rfl ?_
   refine Oa rfl ?_
   refine o_done ?_
   refine s_seq ?_
   refine Se rfl ?_
   refine o_lOS rfl .free rfl ?_
   refine o_call rfl .free rfl (f_form_head hf.rep _) ?_
   rintro _ _ _ _ ⟨rfl, rfl, rfl⟩
   refine o_done ?_
   refine s_block ?_
   refine Se rfl ?_
   refine o_cmps rfl rfl rfl .free rfl ?_
   refine Oa rfl ?_
   refine o_done ?_
   first | refine s_fp rfl (by rw [hhd]; decide) ?_ | refine s_fn rfl (by rw [hhd]; decide) ?_ | refine s_false (by simp [look, opd, *]) ?_
   refine Se rfl ?_
   refine o_cmps rfl rfl rfl .free rfl ?_
   refine Oa rfl ?_
   refine o_done ?_
   first | refine s_tp rfl (by rw [hhd]; rfl) ?_ | refine s_tn rfl (by rw [hhd]; rfl) ?_ | refine s_true (by simp [look, opd, *]) ?_
   refine s_seq ?_
   obtain ⟨x1, x2, x3⟩ := fr_facts 120 av k
   have x4 := fr_hits_succ 120 av k
   have x5 := hits_le 120 av (fr 120 av k)
   have x6 := hits_le 120 av (fr 120 av k + 1)
   obtain ⟨y1, y2, y3⟩ := fr_facts 120 av (fr 120 av k + 1)
   have y4 := fr_hits_succ 120 av (fr 120 av k + 1)
   have y5 := hits_le 120 av (fr 120 av (fr 120 av k + 1))
   have y6 := hits_le 120 av (fr 120 av (fr 120 av k + 1) + 1)
   refine o_enter rfl ?_
   refine Om rfl ?_
   refine o_call rfl .free rfl (f_plainer_name hav bp g k (by omega) (by omega) _) ?_
   rintro _ _ _ _ ⟨rfl, rfl, rfl⟩
   have hnl1 := nm_len (n := fr 120 av k) (by omega)
   generalize hn1e : nm 120 (fr 120 av k) = n1 at hnl1 ⊢
   refine Om rfl ?_
   refine o_call rfl .free rfl (f_plainer_name hav bp (g + 1) (fr 120 av k + 1) (by omega) (by omega) _) ?_
   rintro _ _ _ _ ⟨rfl, rfl, rfl⟩
   have hnl2 := nm_len (n := fr 120 av (fr 120 av k + 1)) (by omega)
   generalize hn2e : nm 120 (fr 120 av (fr 120 av k + 1)) = n2 at hnl2 ⊢
   refine o_lits rfl rfl (by rfl) (by rfl) (by rfl) (by decide) (by decide) (by rfl) .free rfl ?_
   intro b55
   refine o_freezeLit [n1, n2] (by simp [maxN]) (by intro y hy; simp only [List.mem_cons, List.not_mem_nil, or_false] at hy; rcases hy with rfl | rfl; exact hnl1; exact hnl2) ?_
   intro J1 ez hnm
   have hn0 := hnm.st 0 (by simp)
   have hn1 := hnm.st 1 (by simp)
   have hf := hf.mono ez
   have hfr := hfr.mono ez
   have hto := hto.mono ez
   have hav := hav.mono ez
   have hle := hle.trans ez
   refine Oa rfl ?_
   refine o_done ?_
   refine d_all 16 rfl rfl ?_
   refine Da 0 rfl (y_fieldAddr rfl) ?_
   refine Dt 1 [13] rfl (y_lO1 rfl) ?_
   refine Da 2 rfl (y_fieldAddr rfl) ?_
   refine Da 4 rfl (y_move rfl) ?_
   first | refine Da 5 rfl (y_ixD rfl rfl 0 rfl) ?_ | refine Da 5 rfl (y_ixP rfl rfl 0 rfl) ?_
   refine Dt 6 [13] rfl (y_lI1 rfl) ?_
   refine Da 8 rfl (y_move rfl) ?_
   first | refine Da 9 rfl (y_ixD rfl rfl 1 rfl) ?_ | refine Da 9 rfl (y_ixP rfl rfl 1 rfl) ?_
   refine Dt 10 [13] rfl (y_lI1 rfl) ?_
   refine d_two 3 7 (by kernel_rfl) ?_ ?_
   ·skip
    refine i_yld 3 rfl rfl (y_lO1 rfl) .free rfl (.inr heldx) ?_
    refine d_call 7 rfl (by kernel_rfl) rfl rfl .free rfl (f_atom n1 hnl1 _ _) ?_
    rintro _ _ _ _ ⟨rfl, rfl, rfl⟩
    refine ⟨(.inr heldx), ?_⟩
    refine d_call 11 rfl (by kernel_rfl) rfl rfl .free rfl (f_atom n2 hnl2 _ _) ?_
    rintro _ _ _ _ ⟨rfl, rfl, rfl⟩
    refine ⟨(.inr heldx), ?_⟩
    first | refine Da 12 rfl (y_ixD rfl rfl 1 rfl) ?_ | refine Da 12 rfl (y_ixP rfl rfl 1 rfl) ?_
    refine d_st 13 rfl (by kernel_rfl) rfl rfl rfl rfl rfl .free (.inl (by kernel_rfl)) ?_
    first | refine d_takeA 14 rfl (by kernel_rfl) rfl (.inl (by kernel_rfl)) (y_ixD rfl rfl 2 rfl) .free rfl ?_ | refine d_takeA 14 rfl (by kernel_rfl) rfl (.inl (by kernel_rfl)) (y_ixP rfl rfl 2 rfl) .free rfl ?_
    refine d_st 15 rfl (by kernel_rfl) rfl rfl rfl rfl rfl .free (.inl (by kernel_rfl)) ?_
    refine d_done (by kernel_rfl) ?_
    refine s_inBlock ?_
    refine s_seq ?_
    refine Se rfl ?_
    refine o_lOS rfl .free rfl ?_
    refine o_call rfl .free rfl (f_form_kids hf.rep _) ?_
    rintro _ J _ e0 ⟨ok, ck, rfl, hk1, rfl⟩
    have hf := hf.mono e0
    have hfr := hfr.mono e0
    have hto := hto.mono e0
    have hav := hav.mono e0
    have hle := hle.trans e0
    rw [hki] at hk1
    rw [hki]
    have hnm := hnm.mono e0
    refine o_len_slice rfl .free rfl ?_
    refine Om rfl ?_
    refine o_done ?_
    refine s_block ?_
    refine s_loop ?_
    refine Se rfl ?_
    refine o_cmp rfl rfl rfl .free rfl ?_
    refine o_done ?_
    refine s_seq ?_
    refine s_condT rfl (by first | rfl | decide | (simp; done) | omega) ?_
    refine s_skip ?_
    refine s_seq ?_
    refine s_block ?_
    refine Se rfl ?_
    first | refine o_ixD rfl rfl _ rfl .free rfl ?_ | refine o_ixP rfl rfl _ rfl .free rfl ?_
    refine o_lI1 rfl .free rfl ?_
    refine Oa rfl ?_
    refine o_done ?_
    refine Se rfl ?_
    refine Om rfl ?_
    refine Om rfl ?_
    refine Oa rfl ?_
    refine Oa rfl ?_
    refine o_done ?_
    refine s_seq ?_
    refine Se rfl ?_
    refine o_lOS rfl .free rfl ?_
    refine Om rfl ?_
    refine o_call rfl .free rfl (f_form_bound hf.rep hok0 _ _) ?_
    rintro _ J1 _ e1 ⟨o1, k1, rfl, hs1, rfl⟩
    have hf := hf.mono e1
    have hfr := hfr.mono e1
    have hto := hto.mono e1
    have hav := hav.mono e1
    have hle := hle.trans e1
    have hk1 := hk1.mono e1
    have hnm := hnm.mono e1
    refine Oa rfl ?_
    refine o_done ?_
    refine Se rfl ?_
    refine Om rfl ?_
    refine o_len_slice rfl .free rfl ?_
    refine o_cmp rfl rfl rfl .free rfl ?_
    refine o_done ?_
    first | refine s_tp rfl (by simp [Ex.binds]) ?_ | refine s_tn rfl (by simp [Ex.binds]) ?_ | refine s_true (by simp [look, opd, *]) ?_
    refine o_enter rfl ?_
    refine Om rfl ?_
    refine Om rfl ?_
    refine o_lits rfl rfl (by rfl) (by rfl) (by rfl) (by decide) (by decide) (by rfl) .free rfl ?_
    intro b87
    refine o_freeze ?_
    intro ez
    have hf := hf.mono ez
    have hfr := hfr.mono ez
    have hto := hto.mono ez
    have hav := hav.mono ez
    have hle := hle.trans ez
    have hk1 := hk1.mono ez
    have hnm := hnm.mono ez
    refine o_call rfl .free rfl (f_slices_Concat (still_set (xs := [.slice of f.length cf, .slice o1 (List.length _) k1]) (ys := [])) hfr (hs1.mono ez) (Ex.binds_room0 (by omega)) _) ?_
    rintro _ J3 _ e3 ⟨o3, k3, rfl, hs3, rfl⟩
    have hf := hf.mono e3
    have hfr := hfr.mono e3
    have hto := hto.mono e3
    have hav := hav.mono e3
    have hle := hle.trans e3
    have hk1 := hk1.mono e3
    have hnm := hnm.mono e3
    refine Om rfl ?_
    refine Om rfl ?_
    refine o_lits rfl rfl (by rfl) (by rfl) (by rfl) (by decide) (by decide) (by rfl) .free rfl ?_
    intro b91
    refine o_freeze ?_
    intro ey
    have hf := hf.mono ey
    have hfr := hfr.mono ey
    have hto := hto.mono ey
    have hav := hav.mono ey
    have hle := hle.trans ey
    have hk1 := hk1.mono ey
    have hnm := hnm.mono ey
    have hs3 := hs3.mono ey
    refine o_call rfl .free rfl (f_slices_Concat (m := [n1, n2]) (still_set (xs := [.slice ot t.length ct, .slice (some ⟨_, 0, none⟩) (List.length _) _]) (ys := [])) hto hnm (show t.length + 2 ≤ maxN by unfold maxN; omega) _) ?_
    rintro _ J4 _ e4 ⟨o4, k4, rfl, hs4, rfl⟩
    have hf := hf.mono e4
    have hfr := hfr.mono e4
    have hto := hto.mono e4
    have hav := hav.mono e4
    have hle := hle.trans e4
    have hk1 := hk1.mono e4
    have hnm := hnm.mono e4
    have hs3 := hs3.mono e4
    refine Oa rfl ?_
    refine Oa rfl ?_
    refine o_done ?_
    refine s_here fun hlr => ?_
    have hpl := b.pl_hits av (f ++ [h1, z]) (t ++ [n1, n2]) (fr 120 av (fr 120 av k + 1) + 1)
    refine d_tl 14 rfl rfl ?_
    refine Da 0 rfl (y_fieldAddr rfl) ?_
    refine Dt 1 [13] rfl (y_lO1 rfl) ?_
    refine Da 2 rfl (y_move rfl) ?_
    refine Da 3 rfl (y_move rfl) ?_
    refine Da 4 rfl (y_fieldAddr rfl) ?_
    refine Dt 5 [13] rfl (y_lO1 rfl) ?_
    refine Da 6 rfl (y_move rfl) ?_
    first | refine Da 7 rfl (y_ixD rfl rfl _ rfl) ?_ | refine Da 7 rfl (y_ixP rfl rfl _ rfl) ?_
    refine Dt 8 [13] rfl (y_lIS rfl) ?_
    refine Da 9 rfl (y_move rfl) ?_
    refine Da 10 rfl (y_move rfl) ?_
    refine d_call 11 rfl (by kernel_rfl) rfl rfl .free rfl (ihn (f := f ++ [h1, z]) (t := t ++ [n1, n2]) (by omega) (hf.as 5 b.tree (by omega) rfl) hok.2 hs3 hs4 (by simp [hft]) (hnf.add (by intro y hy; simp only [List.mem_cons, List.not_mem_nil, or_false] at hy; rcases hy with rfl | rfl; exact hok.1.1.1.1.1; exact hok.1.1.1.1.2)) (by first | omega | (simp only [List.length_append, List.length_cons, List.length_nil]; omega)) hav bp _ _ (by omega) (by omega) _) ?_
    rintro _ J2 _ e2 ⟨cs2, rfl, hr_0, rfl⟩
    obtain ⟨o2, k2, _, rfl, -⟩ := hr_0.open
    have hlr := hlr.trans e2
    have hf := hf.mono e2
    have hfr := hfr.mono e2
    have hto := hto.mono e2
    have hav := hav.mono e2
    have hle := hle.trans e2
    have hk1 := hk1.mono e2
    have hnm := hnm.mono e2
    refine ⟨(.inr heldx), ?_⟩
    first | refine Da 12 rfl (y_ixD rfl rfl _ rfl) ?_ | refine Da 12 rfl (y_ixP rfl rfl _ rfl) ?_
    refine d_st 13 rfl (by kernel_rfl) rfl rfl rfl rfl rfl .free (.inl (by kernel_rfl)) ?_
    refine d_done (by kernel_rfl) ?_
    refine s_inBlock ?_
    refine o_enter rfl ?_
    refine o_arith rfl rfl rfl (by omega) .free rfl ?_
    refine Om rfl ?_
    refine o_done ?_
    refine s_round ?_
    refine Se rfl ?_
    refine o_cmp rfl rfl rfl .free rfl ?_
    refine o_done ?_
    refine s_seq ?_
    refine s_condF rfl (by first | rfl | decide | (simp; done) | omega) ?_
    refine s_exit rfl ?_
    refine Se rfl ?_
    refine o_lOS rfl .free rfl ?_
    refine o_st rfl rfl rfl rfl .free ?_
    refine o_done ?_
    refine s_mem (fun w h => h.f2) (s_freeze ?_)
    intro hz
    have hf := hf.mono hz
    refine s_ret (.c rfl .nil) ?_
    subst hn1e hn2e
    exact ⟨_, _, hle.trans hz, fun w h => Mem.sub (L' := pn bp ov av cv _ _ :: L) (by repeat (first | exact List.Sublist.refl _ | apply List.Sublist.cons_cons | apply List.Sublist.cons)) h, _, rfl, .mk' rfl (.cons (hf.as 0 (.node tFun []) (by omega) rfl) (.cons (.ofAtom hnl1) (.cons (.ofAtom hnl2) (.cons (hf.as 3 (s.tree) (by omega) rfl) (.cons (hf.as 4 (u.tree) (by omega) rfl) (.cons (hr_0.mono hz) (.nil))))))) (fun y hy => by cases hy; exact still_set (xs := [_, _, _, _, _, _, _, _, _, _, _, _])) (by simp) hcc (by simp [maxN]) (by simp [maxN]), by rw [show g + (2 + b.nb) = g + 1 + 1 + b.nb by omega]; rfl⟩
   ·skip
    refine i_call 7 rfl rfl rfl .free rfl (f_atom n1 hnl1 _ _) ?_
    rintro _ _ _ _ ⟨rfl, rfl, rfl⟩
    refine ⟨(.inr heldx), ?_⟩
    refine d_two 3 11 (by kernel_rfl) ?_ ?_
    ·skip
     refine i_yld 3 rfl rfl (y_lO1 rfl) .free rfl (.inr heldx) ?_
     refine d_call 11 rfl (by kernel_rfl) rfl rfl .free rfl (f_atom n2 hnl2 _ _) ?_
     rintro _ _ _ _ ⟨rfl, rfl, rfl⟩
     refine ⟨(.inr heldx), ?_⟩
     first | refine Da 12 rfl (y_ixD rfl rfl 1 rfl) ?_ | refine Da 12 rfl (y_ixP rfl rfl 1 rfl) ?_
     refine d_st 13 rfl (by kernel_rfl) rfl rfl rfl rfl rfl .free (.inl (by kernel_rfl)) ?_
     first | refine d_takeA 14 rfl (by kernel_rfl) rfl (.inl (by kernel_rfl)) (y_ixD rfl rfl 2 rfl) .free rfl ?_ | refine d_takeA 14 rfl (by kernel_rfl) rfl (.inl (by kernel_rfl)) (y_ixP rfl rfl 2 rfl) .free rfl ?_
     refine d_st 15 rfl (by kernel_rfl) rfl rfl rfl rfl rfl .free (.inl (by kernel_rfl)) ?_
     refine d_done (by kernel_rfl) ?_
     refine s_inBlock ?_
     refine s_seq ?_
     refine Se rfl ?_
     refine o_lOS rfl .free rfl ?_
     refine o_call rfl .free rfl (f_form_kids hf.rep _) ?_
     rintro _ J _ e0 ⟨ok, ck, rfl, hk1, rfl⟩
     have hf := hf.mono e0
     have hfr := hfr.mono e0
     have hto := hto.mono e0
     have hav := hav.mono e0
     have hle := hle.trans e0
     rw [hki] at hk1
     rw [hki]
     have hnm := hnm.mono e0
     refine o_len_slice rfl .free rfl ?_
     refine Om rfl ?_
     refine o_done ?_
     refine s_block ?_
     refine s_loop ?_
     refine Se rfl ?_
     refine o_cmp rfl rfl rfl .free rfl ?_
     refine o_done ?_
     refine s_seq ?_
     refine s_condT rfl (by first | rfl | decide | (simp; done) | omega) ?_
     refine s_skip ?_
     refine s_seq ?_
     refine s_block ?_
     refine Se rfl ?_
     first | refine o_ixD rfl rfl _ rfl .free rfl ?_ | refine o_ixP rfl rfl _ rfl .free rfl ?_
     refine o_lI1 rfl .free rfl ?_
     refine Oa rfl ?_
     refine o_done ?_
     refine Se rfl ?_
     refine Om rfl ?_
     refine Om rfl ?_
     refine Oa rfl ?_
     refine Oa rfl ?_
     refine o_done ?_
     refine s_seq ?_
     refine Se rfl ?_
     refine o_lOS rfl .free rfl ?_
     refine Om rfl ?_
     refine o_call rfl .free rfl (f_form_bound hf.rep hok0 _ _) ?_
     rintro _ J1 _ e1 ⟨o1, k1, rfl, hs1, rfl⟩
     have hf := hf.mono e1
     have hfr := hfr.mono e1
     have hto := hto.mono e1
     have hav := hav.mono e1
     have hle := hle.trans e1
     have hk1 := hk1.mono e1
     have hnm := hnm.mono e1
     refine Oa rfl ?_
     refine o_done ?_
     refine Se rfl ?_
     refine Om rfl ?_
     refine o_len_slice rfl .free rfl ?_
     refine o_cmp rfl rfl rfl .free rfl ?_
     refine o_done ?_
     first | refine s_tp rfl (by simp [Ex.binds]) ?_ | refine s_tn rfl (by simp [Ex.binds]) ?_ | refine s_true (by simp [look, opd, *]) ?_
     refine o_enter rfl ?_
     refine Om rfl ?_
     refine Om rfl ?_
     refine o_lits rfl rfl (by rfl) (by rfl) (by rfl) (by decide) (by decide) (by rfl) .free rfl ?_
     intro b87
     refine o_freeze ?_
     intro ez
     have hf := hf.mono ez
     have hfr := hfr.mono ez
     have hto := hto.mono ez
     have hav := hav.mono ez
     have hle := hle.trans ez
     have hk1 := hk1.mono ez
     have hnm := hnm.mono ez
     refine o_call rfl .free rfl (f_slices_Concat (still_set (xs := [.slice of f.length cf, .slice o1 (List.length _) k1]) (ys := [])) hfr (hs1.mono ez) (Ex.binds_room0 (by omega)) _) ?_
     rintro _ J3 _ e3 ⟨o3, k3, rfl, hs3, rfl⟩
     have hf := hf.mono e3
     have hfr := hfr.mono e3
     have hto := hto.mono e3
     have hav := hav.mono e3
     have hle := hle.trans e3
     have hk1 := hk1.mono e3
     have hnm := hnm.mono e3
     refine Om rfl ?_
     refine Om rfl ?_
     refine o_lits rfl rfl (by rfl) (by rfl) (by rfl) (by decide) (by decide) (by rfl) .free rfl ?_
     intro b91
     refine o_freeze ?_
     intro ey
     have hf := hf.mono ey
     have hfr := hfr.mono ey
     have hto := hto.mono ey
     have hav := hav.mono ey
     have hle := hle.trans ey
     have hk1 := hk1.mono ey
     have hnm := hnm.mono ey
     have hs3 := hs3.mono ey
     refine o_call rfl .free rfl (f_slices_Concat (m := [n1, n2]) (still_set (xs := [.slice ot t.length ct, .slice (some ⟨_, 0, none⟩) (List.length _) _]) (ys := [])) hto hnm (show t.length + 2 ≤ maxN by unfold maxN; omega) _) ?_
     rintro _ J4 _ e4 ⟨o4, k4, rfl, hs4, rfl⟩
     have hf := hf.mono e4
     have hfr := hfr.mono e4
     have hto := hto.mono e4
     have hav := hav.mono e4
     have hle := hle.trans e4
     have hk1 := hk1.mono e4
     have hnm := hnm.mono e4
     have hs3 := hs3.mono e4
     refine Oa rfl ?_
     refine Oa rfl ?_
     refine o_done ?_
     refine s_here fun hlr => ?_
     have hpl := b.pl_hits av (f ++ [h1, z]) (t ++ [n1, n2]) (fr 120 av (fr 120 av k + 1) + 1)
     refine d_tl 14 rfl rfl ?_
     refine Da 0 rfl (y_fieldAddr rfl) ?_
     refine Dt 1 [13] rfl (y_lO1 rfl) ?_
     refine Da 2 rfl (y_move rfl) ?_
     refine Da 3 rfl (y_move rfl) ?_
     refine Da 4 rfl (y_fieldAddr rfl) ?_
     refine Dt 5 [13] rfl (y_lO1 rfl) ?_
     refine Da 6 rfl (y_move rfl) ?_
     first | refine Da 7 rfl (y_ixD rfl rfl _ rfl) ?_ | refine Da 7 rfl (y_ixP rfl rfl _ rfl) ?_
     refine Dt 8 [13] rfl (y_lIS rfl) ?_
     refine Da 9 rfl (y_move rfl) ?_
     refine Da 10 rfl (y_move rfl) ?_
     refine d_call 11 rfl (by kernel_rfl) rfl rfl .free rfl (ihn (f := f ++ [h1, z]) (t := t ++ [n1, n2]) (by omega) (hf.as 5 b.tree (by omega) rfl) hok.2 hs3 hs4 (by simp [hft]) (hnf.add (by intro y hy; simp only [List.mem_cons, List.not_mem_nil, or_false] at hy; rcases hy with rfl | rfl; exact hok.1.1.1.1.1; exact hok.1.1.1.1.2)) (by first | omega | (simp only [List.length_append, List.length_cons, List.length_nil]; omega)) hav bp _ _ (by omega) (by omega) _) ?_
     rintro _ J2 _ e2 ⟨cs2, rfl, hr_0, rfl⟩
     obtain ⟨o2, k2, _, rfl, -⟩ := hr_0.open
     have hlr := hlr.trans e2
     have hf := hf.mono e2
     have hfr := hfr.mono e2
     have hto := hto.mono e2
     have hav := hav.mono e2
     have hle := hle.trans e2
     have hk1 := hk1.mono e2
     have hnm := hnm.mono e2
     refine ⟨(.inr heldx), ?_⟩
     first | refine Da 12 rfl (y_ixD rfl rfl _ rfl) ?_ | refine Da 12 rfl (y_ixP rfl rfl _ rfl) ?_
     refine d_st 13 rfl (by kernel_rfl) rfl rfl rfl rfl rfl .free (.inl (by kernel_rfl)) ?_
     refine d_done (by kernel_rfl) ?_
     refine s_inBlock ?_
     refine o_enter rfl ?_
     refine o_arith rfl rfl rfl (by omega) .free rfl ?_
     refine Om rfl ?_
     refine o_done ?_
     refine s_round ?_
     refine Se rfl ?_
     refine o_cmp rfl rfl rfl .free rfl ?_
     refine o_done ?_
     refine s_seq ?_
     refine s_condF rfl (by first | rfl | decide | (simp; done) | omega) ?_
     refine s_exit rfl ?_
     refine Se rfl ?_
     refine o_lOS rfl .free rfl ?_
     refine o_st rfl rfl rfl rfl .free ?_
     refine o_done ?_
     refine s_mem (fun w h => h.f2) (s_freeze ?_)
     intro hz
     have hf := hf.mono hz
     refine s_ret (.c rfl .nil) ?_
     subst hn1e hn2e
     exact ⟨_, _, hle.trans hz, fun w h => Mem.sub (L' := pn bp ov av cv _ _ :: L) (by repeat (first | exact List.Sublist.refl _ | apply List.Sublist.cons_cons | apply List.Sublist.cons)) h, _, rfl, .mk' rfl (.cons (hf.as 0 (.node tFun []) (by omega) rfl) (.cons (.ofAtom hnl1) (.cons (.ofAtom hnl2) (.cons (hf.as 3 (s.tree) (by omega) rfl) (.cons (hf.as 4 (u.tree) (by omega) rfl) (.cons (hr_0.mono hz) (.nil))))))) (fun y hy => by cases hy; exact still_set (xs := [_, _, _, _, _, _, _, _, _, _, _, _])) (by simp) hcc (by simp [maxN]) (by simp [maxN]), by rw [show g + (2 + b.nb) = g + 1 + 1 + b.nb by omega]; rfl⟩
    ·skip
     refine i_call 11 rfl rfl rfl .free rfl (f_atom n2 hnl2 _ _) ?_
     rintro _ _ _ _ ⟨rfl, rfl, rfl⟩
     refine ⟨(.inr heldx), ?_⟩
     first | refine Da 12 rfl (y_ixD rfl rfl 1 rfl) ?_ | refine Da 12 rfl (y_ixP rfl rfl 1 rfl) ?_
     refine d_two 3 13 (by kernel_rfl) ?_ ?_
     ·skip
      refine i_yld 3 rfl rfl (y_lO1 rfl) .free rfl (.inr heldx) ?_
      refine d_st 13 rfl (by kernel_rfl) rfl rfl rfl rfl rfl .free (.inl (by kernel_rfl)) ?_
      first | refine d_takeA 14 rfl (by kernel_rfl) rfl (.inl (by kernel_rfl)) (y_ixD rfl rfl 2 rfl) .free rfl ?_ | refine d_takeA 14 rfl (by kernel_rfl) rfl (.inl (by kernel_rfl)) (y_ixP rfl rfl 2 rfl) .free rfl ?_
      refine d_st 15 rfl (by kernel_rfl) rfl rfl rfl rfl rfl .free (.inl (by kernel_rfl)) ?_
      refine d_done (by kernel_rfl) ?_
      refine s_inBlock ?_
      refine s_seq ?_
      refine Se rfl ?_
      refine o_lOS rfl .free rfl ?_
      refine o_call rfl .free rfl (f_form_kids hf.rep _) ?_
      rintro _ J _ e0 ⟨ok, ck, rfl, hk1, rfl⟩
      have hf := hf.mono e0
      have hfr := hfr.mono e0
      have hto := hto.mono e0
      have hav := hav.mono e0
      have hle := hle.trans e0
      rw [hki] at hk1
      rw [hki]
      have hnm := hnm.mono e0
      refine o_len_slice rfl .free rfl ?_
      refine Om rfl ?_
      refine o_done ?_
      refine s_block ?_
      refine s_loop ?_
      refine Se rfl ?_
      refine o_cmp rfl rfl rfl .free rfl ?_
      refine o_done ?_
      refine s_seq ?_
      refine s_condT rfl (by first | rfl | decide | (simp; done) | omega) ?_
      refine s_skip ?_
      refine s_seq ?_
      refine s_block ?_
      refine Se rfl ?_
      first | refine o_ixD rfl rfl _ rfl .free rfl ?_ | refine o_ixP rfl rfl _ rfl .free rfl ?_
      refine o_lI1 rfl .free rfl ?_
      refine Oa rfl ?_
      refine o_done ?_
      refine Se rfl ?_
      refine Om rfl ?_
      refine Om rfl ?_
      refine Oa rfl ?_
      refine Oa rfl ?_
      refine o_done ?_
      refine s_seq ?_
      refine Se rfl ?_
      refine o_lOS rfl .free rfl ?_
      refine Om rfl ?_
      refine o_call rfl .free rfl (f_form_bound hf.rep hok0 _ _) ?_
      rintro _ J1 _ e1 ⟨o1, k1, rfl, hs1, rfl⟩
      have hf := hf.mono e1
      have hfr := hfr.mono e1
      have hto := hto.mono e1
      have hav := hav.mono e1
      have hle := hle.trans e1
      have hk1 := hk1.mono e1
      have hnm := hnm.mono e1
      refine Oa rfl ?_
      refine o_done ?_
      refine Se rfl ?_
      refine Om rfl ?_
      refine o_len_slice rfl .free rfl ?_
      refine o_cmp rfl rfl rfl .free rfl ?_
      refine o_done ?_
      first | refine s_tp rfl (by simp [Ex.binds]) ?_ | refine s_tn rfl (by simp [Ex.binds]) ?_ | refine s_true (by simp [look, opd, *]) ?_
      refine o_enter rfl ?_
      refine Om rfl ?_
      refine Om rfl ?_
      refine o_lits rfl rfl (by rfl) (by rfl) (by rfl) (by decide) (by decide) (by rfl) .free rfl ?_
      intro b87
      refine o_freeze ?_
      intro ez
      have hf := hf.mono ez
      have hfr := hfr.mono ez
      have hto := hto.mono ez
      have hav := hav.mono ez
      have hle := hle.trans ez
      have hk1 := hk1.mono ez
      have hnm := hnm.mono ez
      refine o_call rfl .free rfl (f_slices_Concat (still_set (xs := [.slice of f.length cf, .slice o1 (List.length _) k1]) (ys := [])) hfr (hs1.mono ez) (Ex.binds_room0 (by omega)) _) ?_
      rintro _ J3 _ e3 ⟨o3, k3, rfl, hs3, rfl⟩
      have hf := hf.mono e3
      have hfr := hfr.mono e3
      have hto := hto.mono e3
      have hav := hav.mono e3
      have hle := hle.trans e3
      have hk1 := hk1.mono e3
      have hnm := hnm.mono e3
      refine Om rfl ?_
      refine Om rfl ?_
      refine o_lits rfl rfl (by rfl) (by rfl) (by rfl) (by decide) (by decide) (by rfl) .free rfl ?_
      intro b91
      refine o_freeze ?_
      intro ey
      have hf := hf.mono ey
      have hfr := hfr.mono ey
      have hto := hto.mono ey
      have hav := hav.mono ey
      have hle := hle.trans ey
      have hk1 := hk1.mono ey
      have hnm := hnm.mono ey
      have hs3 := hs3.mono ey
      refine o_call rfl .free rfl (f_slices_Concat (m := [n1, n2]) (still_set (xs := [.slice ot t.length ct, .slice (some ⟨_, 0, none⟩) (List.length _) _]) (ys := [])) hto hnm (show t.length + 2 ≤ maxN by unfold maxN; omega) _) ?_
      rintro _ J4 _ e4 ⟨o4, k4, rfl, hs4, rfl⟩
      have hf := hf.mono e4
      have hfr := hfr.mono e4
      have hto := hto.mono e4
      have hav := hav.mono e4
      have hle := hle.trans e4
      have hk1 := hk1.mono e4
      have hnm := hnm.mono e4
      have hs3 := hs3.mono e4
      refine Oa rfl ?_
      refine Oa rfl ?_
      refine o_done ?_
      refine s_here fun hlr => ?_
      have hpl := b.pl_hits av (f ++ [h1, z]) (t ++ [n1, n2]) (fr 120 av (fr 120 av k + 1) + 1)
      refine d_tl 14 rfl rfl ?_
      refine Da 0 rfl (y_fieldAddr rfl) ?_
      refine Dt 1 [13] rfl (y_lO1 rfl) ?_
      refine Da 2 rfl (y_move rfl) ?_
      refine Da 3 rfl (y_move rfl) ?_
      refine Da 4 rfl (y_fieldAddr rfl) ?_
      refine Dt 5 [13] rfl (y_lO1 rfl) ?_
      refine Da 6 rfl (y_move rfl) ?_
      first | refine Da 7 rfl (y_ixD rfl rfl _ rfl) ?_ | refine Da 7 rfl (y_ixP rfl rfl _ rfl) ?_
      refine Dt 8 [13] rfl (y_lIS rfl) ?_
      refine Da 9 rfl (y_move rfl) ?_
      refine Da 10 rfl (y_move rfl) ?_
      refine d_call 11 rfl (by kernel_rfl) rfl rfl .free rfl (ihn (f := f ++ [h1, z]) (t := t ++ [n1, n2]) (by omega) (hf.as 5 b.tree (by omega) rfl) hok.2 hs3 hs4 (by simp [hft]) (hnf.add (by intro y hy; simp only [List.mem_cons, List.not_mem_nil, or_false] at hy; rcases hy with rfl | rfl; exact hok.1.1.1.1.1; exact hok.1.1.1.1.2)) (by first | omega | (simp only [List.length_append, List.length_cons, List.length_nil]; omega)) hav bp _ _ (by omega) (by omega) _) ?_
      rintro _ J2 _ e2 ⟨cs2, rfl, hr_0, rfl⟩
      obtain ⟨o2, k2, _, rfl, -⟩ := hr_0.open
      have hlr := hlr.trans e2
      have hf := hf.mono e2
      have hfr := hfr.mono e2
      have hto := hto.mono e2
      have hav := hav.mono e2
      have hle := hle.trans e2
      have hk1 := hk1.mono e2
      have hnm := hnm.mono e2
      refine ⟨(.inr heldx), ?_⟩
      first | refine Da 12 rfl (y_ixD rfl rfl _ rfl) ?_ | refine Da 12 rfl (y_ixP rfl rfl _ rfl) ?_
      refine d_st 13 rfl (by kernel_rfl) rfl rfl rfl rfl rfl .free (.inl (by kernel_rfl)) ?_
      refine d_done (by kernel_rfl) ?_
      refine s_inBlock ?_
      refine o_enter rfl ?_
      refine o_arith rfl rfl rfl (by omega) .free rfl ?_
      refine Om rfl ?_
      refine o_done ?_
      refine s_round ?_
      refine Se rfl ?_
      refine o_cmp rfl rfl rfl .free rfl ?_
      refine o_done ?_
      refine s_seq ?_
      refine s_condF rfl (by first | rfl | decide | (simp; done) | omega) ?_
      refine s_exit rfl ?_
      refine Se rfl ?_
      refine o_lOS rfl .free rfl ?_
      refine o_st rfl rfl rfl rfl .free ?_
      refine o_done ?_
      refine s_mem (fun w h => h.f2) (s_freeze ?_)
      intro hz
      have hf := hf.mono hz
      refine s_ret (.c rfl .nil) ?_
      subst hn1e hn2e
      exact ⟨_, _, hle.trans hz, fun w h => Mem.sub (L' := pn bp ov av cv _ _ :: L) (by repeat (first | exact List.Sublist.refl _ | apply List.Sublist.cons_cons | apply List.Sublist.cons)) h, _, rfl, .mk' rfl (.cons (hf.as 0 (.node tFun []) (by omega) rfl) (.cons (.ofAtom hnl1) (.cons (.ofAtom hnl2) (.cons (hf.as 3 (s.tree) (by omega) rfl) (.cons (hf.as 4 (u.tree) (by omega) rfl) (.cons (hr_0.mono hz) (.nil))))))) (fun y hy => by cases hy; exact still_set (xs := [_, _, _, _, _, _, _, _, _, _, _, _])) (by simp) hcc (by simp [maxN]) (by simp [maxN]), by rw [show g + (2 + b.nb) = g + 1 + 1 + b.nb by omega]; rfl⟩
     ·skip
      refine i_st 13 rfl rfl rfl rfl rfl rfl .free (.inl (by kernel_rfl)) ?_
      refine d_yld 3 rfl (by kernel_rfl) rfl (y_lO1 rfl) .free rfl (.inl (by kernel_rfl)) ?_
      first | refine d_takeA 14 rfl (by kernel_rfl) rfl (.inl (by kernel_rfl)) (y_ixD rfl rfl 2 rfl) .free rfl ?_ | refine d_takeA 14 rfl (by kernel_rfl) rfl (.inl (by kernel_rfl)) (y_ixP rfl rfl 2 rfl) .free rfl ?_
      refine d_st 15 rfl (by kernel_rfl) rfl rfl rfl rfl rfl .free (.inl (by kernel_rfl)) ?_
      refine d_done (by kernel_rfl) ?_
      refine s_inBlock ?_
      refine s_seq ?_
      refine Se rfl ?_
      refine o_lOS rfl .free rfl ?_
      refine o_call rfl .free rfl (f_form_kids hf.rep _) ?_
      rintro _ J _ e0 ⟨ok, ck, rfl, hk1, rfl⟩
      have hf := hf.mono e0
      have hfr := hfr.mono e0
      have hto := hto.mono e0
      have hav := hav.mono e0
      have hle := hle.trans e0
      rw [hki] at hk1
      rw [hki]
      have hnm := hnm.mono e0
      refine o_len_slice rfl .free rfl ?_
      refine Om rfl ?_
      refine o_done ?_
      refine s_block ?_
      refine s_loop ?_
      refine Se rfl ?_
      refine o_cmp rfl rfl rfl .free rfl ?_
      refine o_done ?_
      refine s_seq ?_
      refine s_condT rfl (by first | rfl | decide | (simp; done) | omega) ?_
      refine s_skip ?_
      refine s_seq ?_
      refine s_block ?_
      refine Se rfl ?_
      first | refine o_ixD rfl rfl _ rfl .free rfl ?_ | refine o_ixP rfl rfl _ rfl .free rfl ?_
      refine o_lI1 rfl .free rfl ?_
      refine Oa rfl ?_
      refine o_done ?_
      refine Se rfl ?_
      refine Om rfl ?_
      refine Om rfl ?_
      refine Oa rfl ?_
      refine Oa rfl ?_
      refine o_done ?_
      refine s_seq ?_
      refine Se rfl ?_
      refine o_lOS rfl .free rfl ?_
      refine Om rfl ?_
      refine o_call rfl .free rfl (f_form_bound hf.rep hok0 _ _) ?_
      rintro _ J1 _ e1 ⟨o1, k1, rfl, hs1, rfl⟩
      have hf := hf.mono e1
      have hfr := hfr.mono e1
      have hto := hto.mono e1
      have hav := hav.mono e1
      have hle := hle.trans e1
      have hk1 := hk1.mono e1
      have hnm := hnm.mono e1
      refine Oa rfl ?_
      refine o_done ?_
      refine Se rfl ?_
      refine Om rfl ?_
      refine o_len_slice rfl .free rfl ?_
      refine o_cmp rfl rfl rfl .free rfl ?_
      refine o_done ?_
      first | refine s_tp rfl (by simp [Ex.binds]) ?_ | refine s_tn rfl (by simp [Ex.binds]) ?_ | refine s_true (by simp [look, opd, *]) ?_
      refine o_enter rfl ?_
      refine Om rfl ?_
      refine Om rfl ?_
      refine o_lits rfl rfl (by rfl) (by rfl) (by rfl) (by decide) (by decide) (by rfl) .free rfl ?_
      intro b87
      refine o_freeze ?_
      intro ez
      have hf := hf.mono ez
      have hfr := hfr.mono ez
      have hto := hto.mono ez
      have hav := hav.mono ez
      have hle := hle.trans ez
      have hk1 := hk1.mono ez
      have hnm := hnm.mono ez
      refine o_call rfl .free rfl (f_slices_Concat (still_set (xs := [.slice of f.length cf, .slice o1 (List.length _) k1]) (ys := [])) hfr (hs1.mono ez) (Ex.binds_room0 (by omega)) _) ?_
      rintro _ J3 _ e3 ⟨o3, k3, rfl, hs3, rfl⟩
      have hf := hf.mono e3
      have hfr := hfr.mono e3
      have hto := hto.mono e3
      have hav := hav.mono e3
      have hle := hle.trans e3
      have hk1 := hk1.mono e3
      have hnm := hnm.mono e3
      refine Om rfl ?_
      refine Om rfl ?_
      refine o_lits rfl rfl (by rfl) (by rfl) (by rfl) (by decide) (by decide) (by rfl) .free rfl ?_
      intro b91
      refine o_freeze ?_
      intro ey
      have hf := hf.mono ey
      have hfr := hfr.mono ey
      have hto := hto.mono ey
      have hav := hav.mono ey
      have hle := hle.trans ey
      have hk1 := hk1.mono ey
      have hnm := hnm.mono ey
      have hs3 := hs3.mono ey
      refine o_call rfl .free rfl (f_slices_Concat (m := [n1, n2]) (still_set (xs := [.slice ot t.length ct, .slice (some ⟨_, 0, none⟩) (List.length _) _]) (ys := [])) hto hnm (show t.length + 2 ≤ maxN by unfold maxN; omega) _) ?_
      rintro _ J4 _ e4 ⟨o4, k4, rfl, hs4, rfl⟩
      have hf := hf.mono e4
      have hfr := hfr.mono e4
      have hto := hto.mono e4
      have hav := hav.mono e4
      have hle := hle.trans e4
      have hk1 := hk1.mono e4
      have hnm := hnm.mono e4
      have hs3 := hs3.mono e4
      refine Oa rfl ?_
      refine Oa rfl ?_
      refine o_done ?_
      refine s_here fun hlr => ?_
      have hpl := b.pl_hits av (f ++ [h1, z]) (t ++ [n1, n2]) (fr 120 av (fr 120 av k + 1) + 1)
      refine d_tl 14 rfl rfl ?_
      refine Da 0 rfl (y_fieldAddr rfl) ?_
      refine Dt 1 [13] rfl (y_lO1 rfl) ?_
      refine Da 2 rfl (y_move rfl) ?_
      refine Da 3 rfl (y_move rfl) ?_
      refine Da 4 rfl (y_fieldAddr rfl) ?_
      refine Dt 5 [13] rfl (y_lO1 rfl) ?_
      refine Da 6 rfl (y_move rfl) ?_
      first | refine Da 7 rfl (y_ixD rfl rfl _ rfl) ?_ | refine Da 7 rfl (y_ixP rfl rfl _ rfl) ?_
      refine Dt 8 [13] rfl (y_lIS rfl) ?_
      refine Da 9 rfl (y_move rfl) ?_
      refine Da 10 rfl (y_move rfl) ?_
      refine d_call 11 rfl (by kernel_rfl) rfl rfl .free rfl (ihn (f := f ++ [h1, z]) (t := t ++ [n1, n2]) (by omega) (hf.as 5 b.tree (by omega) rfl) hok.2 hs3 hs4 (by simp [hft]) (hnf.add (by intro y hy; simp only [List.mem_cons, List.not_mem_nil, or_false] at hy; rcases hy with rfl | rfl; exact hok.1.1.1.1.1; exact hok.1.1.1.1.2)) (by first | omega | (simp only [List.length_append, List.length_cons, List.length_nil]; omega)) hav bp _ _ (by omega) (by omega) _) ?_
      rintro _ J2 _ e2 ⟨cs2, rfl, hr_0, rfl⟩
      obtain ⟨o2, k2, _, rfl, -⟩ := hr_0.open
      have hlr := hlr.trans e2
      have hf := hf.mono e2
      have hfr := hfr.mono e2
      have hto := hto.mono e2
      have hav := hav.mono e2
      have hle := hle.trans e2
      have hk1 := hk1.mono e2
      have hnm := hnm.mono e2
      refine ⟨(.inr heldx), ?_⟩
      first | refine Da 12 rfl (y_ixD rfl rfl _ rfl) ?_ | refine Da 12 rfl (y_ixP rfl rfl _ rfl) ?_
      refine d_st 13 rfl (by kernel_rfl) rfl rfl rfl rfl rfl .free (.inl (by kernel_rfl)) ?_
      refine d_done (by kernel_rfl) ?_
      refine s_inBlock ?_
      refine o_enter rfl ?_
      refine o_arith rfl rfl rfl (by omega) .free rfl ?_
      refine Om rfl ?_
      refine o_done ?_
      refine s_round ?_
      refine Se rfl ?_
      refine o_cmp rfl rfl rfl .free rfl ?_
      refine o_done ?_
      refine s_seq ?_
      refine s_condF rfl (by first | rfl | decide | (simp; done) | omega) ?_
      refine s_exit rfl ?_
      refine Se rfl ?_
      refine o_lOS rfl .free rfl ?_
      refine o_st rfl rfl rfl rfl .free ?_
      refine o_done ?_
      refine s_mem (fun w h => h.f2) (s_freeze ?_)
      intro hz
      have hf := hf.mono hz
      refine s_ret (.c rfl .nil) ?_
      subst hn1e hn2e
      exact ⟨_, _, hle.trans hz, fun w h => Mem.sub (L' := pn bp ov av cv _ _ :: L) (by repeat (first | exact List.Sublist.refl _ | apply List.Sublist.cons_cons | apply List.Sublist.cons)) h, _, rfl, .mk' rfl (.cons (hf.as 0 (.node tFun []) (by omega) rfl) (.cons (.ofAtom hnl1) (.cons (.ofAtom hnl2) (.cons (hf.as 3 (s.tree) (by omega) rfl) (.cons (hf.as 4 (u.tree) (by omega) rfl) (.cons (hr_0.mono hz) (.nil))))))) (fun y hy => by cases hy; exact still_set (xs := [_, _, _, _, _, _, _, _, _, _, _, _])) (by simp) hcc (by simp [maxN]) (by simp [maxN]), by rw [show g + (2 + b.nb) = g + 1 + 1 + b.nb by omega]; rfl⟩
  ·skip
   have hlen : (Ex.un o a).tree.parts.length = 2 := rfl
   have hki := kids_un o a
   have hhd : (Ex.un o a).tree.head = o.txt := rfl
   simp only [Ex.un.sizeOf_spec] at hlt
   simp only [Ex.ok, Bool.and_eq_true, decide_eq_true_eq] at hok
   simp only [Ex.nb] at hk hg ⊢
   simp only [Ex.size] at hfl
   obtain ⟨_, hrl⟩ : ∃ _ : True, RepL I (Ex.un o a).tree.parts _ := ⟨trivial, hcl⟩
   simp only [show (Ex.un o a).tree.parts = [.node o.txt [], a.tree] from rfl, cellsF, List.cons_append, List.nil_append] at hrl ⊢
   refine s_mem (fun w h => h.f4) ?_
   refine o_enter rfl ?_
   refine Oa rfl ?_
   refine o_done ?_
   refine s_seq ?_
   refine Se rfl ?_
   refine o_lOS rfl .free rfl ?_
   refine o_call rfl .free rfl (f_form_head hf.rep _) ?_
   rintro _ _ _ _ ⟨rfl, rfl, rfl⟩
   refine o_done ?_
   refine s_block ?_
   refine Se rfl ?_
   refine o_cmps rfl rfl rfl .free rfl ?_
   refine Oa rfl ?_
   refine o_done ?_
   first | refine s_fp rfl (by rw [hhd]; cases o <;> decide) ?_ | refine s_fn rfl (by rw [hhd]; cases o <;> decide) ?_ | refine s_false (by simp [look, opd, *]) ?_
   refine Se rfl ?_
   refine o_cmps rfl rfl rfl .free rfl ?_
   refine Oa rfl ?_
   refine o_done ?_
   first | refine s_fp rfl (by rw [hhd]; cases o <;> decide) ?_ | refine s_fn rfl (by rw [hhd]; cases o <;> decide) ?_ | refine s_false (by simp [look, opd, *]) ?_
   refine s_skip ?_
   refine s_inBlock ?_
   refine s_seq ?_
   refine Se rfl ?_
   refine o_lOS rfl .free rfl ?_
   refine o_call rfl .free rfl (f_form_kids hf.rep _) ?_
   rintro _ J _ e0 ⟨ok, ck, rfl, hk1, rfl⟩
   have hf := hf.mono e0
   have hfr := hfr.mono e0
   have hto := hto.mono e0
   have hav := hav.mono e0
   have hle := hle.trans e0
   rw [hki] at hk1
   rw [hki]
   refine o_len_slice rfl .free rfl ?_
   refine Om rfl ?_
   refine o_done ?_
   refine s_block ?_
   refine s_loop ?_
   refine Se rfl ?_
   refine o_cmp rfl rfl rfl .free rfl ?_
   refine o_done ?_
   refine s_seq ?_
   refine s_condT rfl (by first | rfl | decide | (simp; done) | omega) ?_
   refine s_skip ?_
   refine s_seq ?_
   refine s_block ?_
   refine Se rfl ?_
   first | refine o_ixD rfl rfl _ rfl .free rfl ?_ | refine o_ixP rfl rfl _ rfl .free rfl ?_
   refine o_lI1 rfl .free rfl ?_
   refine Oa rfl ?_
   refine o_done ?_
   refine Se rfl ?_
   refine Om rfl ?_
   refine Om rfl ?_
   refine Oa rfl ?_
   refine Oa rfl ?_
   refine o_done ?_
   refine s_seq ?_
   refine Se rfl ?_
   refine o_lOS rfl .free rfl ?_
   refine Om rfl ?_
   refine o_call rfl .free rfl (f_form_bound hf.rep hok0 _ _) ?_
   rintro _ J1 _ e1 ⟨o1, k1, rfl, hs1, rfl⟩
   have hf := hf.mono e1
   have hfr := hfr.mono e1
   have hto := hto.mono e1
   have hav := hav.mono e1
   have hle := hle.trans e1
   have hk1 := hk1.mono e1
   refine Oa rfl ?_
   refine o_done ?_
   refine Se rfl ?_
   refine Om rfl ?_
   refine o_len_slice rfl .free rfl ?_
   refine o_cmp rfl rfl rfl .free rfl ?_
   refine o_done ?_
   first | refine s_fp rfl (by simp [Ex.binds]) ?_ | refine s_fn rfl (by simp [Ex.binds]) ?_ | refine s_false (by simp [look, opd, *]) ?_
   refine s_skip ?_
   refine s_here fun hlr => ?_
   have hpl := a.pl_hits av (f) (t) k
   refine d_tl 14 rfl rfl ?_
   refine Da 0 rfl (y_fieldAddr rfl) ?_
   refine Dt 1 [13] rfl (y_lO1 rfl) ?_
   refine Da 2 rfl (y_move rfl) ?_
   refine Da 3 rfl (y_move rfl) ?_
   refine Da 4 rfl (y_fieldAddr rfl) ?_
   refine Dt 5 [13] rfl (y_lO1 rfl) ?_
   refine Da 6 rfl (y_move rfl) ?_
   first | refine Da 7 rfl (y_ixD rfl rfl _ rfl) ?_ | refine Da 7 rfl (y_ixP rfl rfl _ rfl) ?_
   refine Dt 8 [13] rfl (y_lIS rfl) ?_
   refine Da 9 rfl (y_move rfl) ?_
   refine Da 10 rfl (y_move rfl) ?_
   refine d_call 11 rfl (by kernel_rfl) rfl rfl .free rfl (ihn (f := f) (t := t) (by omega) (hf.as 1 a.tree (by omega) rfl) hok hfr hto (by simp [hft]) hnf (by first | omega | (simp only [List.length_append, List.length_cons, List.length_nil]; omega)) hav bp _ _ (by omega) (by omega) _) ?_
   rintro _ J2 _ e2 ⟨cs2, rfl, hr_0, rfl⟩
   obtain ⟨o2, k2, _, rfl, -⟩ := hr_0.open
   have hlr := hlr.trans e2
   have hf := hf.mono e2
   have hfr := hfr.mono e2
   have hto := hto.mono e2
   have hav := hav.mono e2
   have hle := hle.trans e2
   have hk1 := hk1.mono e2
   refine ⟨(.inr heldx), ?_⟩
   first | refine Da 12 rfl (y_ixD rfl rfl _ rfl) ?_ | refine Da 12 rfl (y_ixP rfl rfl _ rfl) ?_
   refine d_st 13 rfl (by kernel_rfl) rfl rfl rfl rfl rfl .free (.inl (by kernel_rfl)) ?_
   refine d_done (by kernel_rfl) ?_
   refine s_inBlock ?_
   refine o_enter rfl ?_
   refine o_arith rfl rfl rfl (by omega) .free rfl ?_
   refine Om rfl ?_
   refine o_done ?_
   refine s_round ?_
   refine Se rfl ?_
   refine o_cmp rfl rfl rfl .free rfl ?_
   refine o_done ?_
   refine s_seq ?_
   refine s_condF rfl (by first | rfl | decide | (simp; done) | omega) ?_
   refine s_exit rfl ?_
   refine Se rfl ?_
   refine o_lOS rfl .free rfl ?_
   refine o_st rfl rfl rfl rfl .free ?_
   refine o_done ?_
   refine s_mem (fun w h => h.f2) (s_freeze ?_)
   intro hz
   have hf := hf.mono hz
   refine s_ret (.c rfl .nil) ?_
   exact ⟨_, _, hle.trans hz, fun w h => Mem.sub (L' := pn bp ov av cv _ _ :: L) (by repeat (first | exact List.Sublist.refl _ | apply List.Sublist.cons_cons | apply List.Sublist.cons)) h, _, rfl, .mk' rfl (.cons (hf.as 0 (.node o.txt []) (by omega) rfl) (.cons (hr_0.mono hz) (.nil))) (fun y hy => by cases hy; exact still_set (xs := [_, _, _, _])) (by simp) hcc (by simp [maxN]) (by simp [maxN]), by first | rfl | (simp only [Nat.add_assoc]; rfl)⟩
end Go.Proofs.YtjhjhepjchdpgaaGreatDoor


/- 'ExprPlain', by the program. No conditions. -/
namespace Go.Proofs.YtjhjhepjchdpgaaGreatDoor
set_option maxRecDepth 100000
set_option linter.unusedVariables false
set_option linter.unusedSimpArgs false

theorem f_form_plain {I : Heap} {e : Ex} {cs : List Value} (h : Rep I e.tree cs) (hfine : e.fine = true) (L : Own) : Fun Tryz.prog 24 [.agg cs.toArray] I L (fun v I' L' => ∃ ds, v = .tuple #[.agg (List.toArray ds), .bool true] ∧ Rep I' e.plain.tree ds ∧ L = L') := by
 obtain ⟨oa, c, oaf, cf, rfl, hf⟩ := h.at'
 have hpf := plain_fine hfine
 have hf2 := hfine
 simp only [Ex.fine, Bool.and_eq_true, decide_eq_true_eq, Tree.fits] at hf2
 have hf3 := hpf
 simp only [Ex.fine, Bool.and_eq_true, decide_eq_true_eq, Tree.fits] at hf3
 have hroom := plain_room hf2.1.2
 refine fun_intro (by simp) ?_
 refine Se rfl ?_
 refine o_box rfl rfl .free rfl ?_
 intro b1
 refine o_alloc .free rfl ?_
 intro b2
 refine Oa rfl ?_
 refine o_done ?_
 refine Se rfl ?_
 refine o_lOS rfl .free rfl ?_
 refine o_call rfl .free rfl (f_form_freeNames hf.rep hf2.1.1 (by omega) _) ?_
 rintro _ J1 _ e1 ⟨ov, cv, rfl, hav, rfl⟩
 have hf := hf.mono e1
 refine o_struct rfl rfl rfl .free rfl ?_
 refine o_box rfl rfl .free rfl ?_
 intro b9
 refine Oa rfl ?_
 refine o_done ?_
 refine Se rfl ?_
 refine Om rfl ?_
 refine o_lOS rfl .free rfl ?_
 refine o_mem (L' := pn b9 ov e.free cv 0 0 :: _) (fun w h => h) ?_
 refine o_call rfl .free rfl (f_plainer_expr _ (Nat.lt_succ_self _) hf.rep hf2.1.1 (strs_nil _) (strs_nil _) rfl (fun s hs => by cases hs) (by simp; omega) hav b9 0 0 (by omega) (by omega) _) ?_
 rintro _ J2 _ e2 ⟨ds, rfl, hr, rfl⟩
 have hr : Rep J2 e.plain.tree ds := hr
 obtain ⟨od, cd, _, rfl, -⟩ := hr.open
 have hle := e1.trans e2
 unfold pn
 refine o_alloc .free rfl ?_
 intro b5
 refine o_st rfl rfl rfl rfl .free ?_
 refine o_done ?_
 refine s_seq ?_
 refine d_all 12 rfl rfl ?_
 refine Dt 0 [10] rfl (y_lOS rfl) ?_
 refine Da 1 rfl (y_move rfl) ?_
 refine Da 2 rfl (y_nilCheck rfl) ?_
 first | refine Da 3 rfl (y_fieldAddr rfl) ?_ | refine Da 3 rfl (y_fieldAddr' rfl) ?_
 refine Dt 4 [5, 6, 8, 10] rfl (y_lJ rfl) ?_
 refine Da 5 rfl (y_cmp rfl rfl rfl) ?_
 refine Da 6 rfl (y_move rfl) ?_
 apply d_and 19 22 rfl
 ·intro g3_7 hk
  try simp only [nb] at g3_7
  refine d_take 7 [8, 10] rfl (by kernel_rfl) rfl heldx (y_lOS rfl) (.met rfl rfl) rfl ?_
  refine d_call 8 rfl (by kernel_rfl) rfl rfl (.met rfl rfl) rfl (f_fine hr hf3.1.1 (by omega) _) ?_
  rintro _ _ _ _ ⟨rfl, rfl, rfl⟩
  refine ⟨(.inr heldx), ?_⟩
  refine Da 9 rfl (y_pick_true rfl rfl) ?_
  exact d_fin 2 rfl rfl hk
 ·intro _ hk
  refine Ds 7 rfl rfl rfl ?_
  refine Ds 8 rfl rfl rfl ?_
  refine Da 9 rfl (y_pick_false rfl rfl) ?_
  exact d_fin 2 rfl rfl hk
 refine d_st 10 rfl (by kernel_rfl) rfl rfl rfl rfl rfl .free (.inl (by kernel_rfl)) ?_
 refine d_takeA 11 rfl (by kernel_rfl) rfl (.inl (by kernel_rfl)) (y_assign rfl) .free rfl ?_
 refine d_done (by kernel_rfl) ?_
 refine s_ret (.c rfl (.tmp rfl .nil)) ?_
 refine ⟨J2, L, hle, drops, _, ?_, hr, rfl⟩
 rw [hpf]; simp [retOne]; omega
theorem f_ExprPlain (s : Txt) (hs : s.length ≤ maxN) (I : Heap) (L : Own) : Fun Tryz.prog 8 [.string (str s)] I L (EL (plainOf s) L) := by
 refine fun_intro (by simp) ?_
 refine Se rfl ?_
 refine Oa rfl ?_
 refine Oa rfl ?_
 refine o_done ?_
 refine Se rfl ?_
 refine Om rfl ?_
 refine o_call rfl .free rfl (f_readExpr s hs _ _) ?_
 rintro _ J _ hleJ ⟨t, cs, ok, rfl, hrep, rfl, hpf⟩
 obtain ⟨oc, cc, _, rfl, -⟩ := hrep.open
 refine Om rfl ?_
 refine o_extract rfl rfl .free rfl ?_
 refine o_extract rfl rfl .free rfl ?_
 refine o_alloc .free rfl ?_
 intro b4
 refine o_st rfl rfl rfl rfl .free ?_
 refine Oa rfl ?_
 refine o_done ?_
 refine s_seq ?_
 refine Se rfl ?_
 refine Om rfl ?_
 refine o_not rfl .free rfl ?_
 refine o_done ?_
 refine s_cond rfl ?_ ?_
 ·intro c0
  try simp only [nb] at c0
  refine Se rfl ?_
  refine Oa rfl ?_
  refine Oa rfl ?_
  refine o_done ?_
  refine s_ret (.tmp rfl (.tmp rfl .nil)) ?_
  exact ⟨J, L, hleJ, drops, by rw [plainOf_none (RX_none hpf c0)]; rfl, rfl⟩
 intro c0
 try simp only [nb] at c0
 obtain ⟨e, he, rfl, hok, hlen, hfine, htxt⟩ := RX_some hpf c0
 have hpl := plainOf_some he
 have hf3 := plain_fine hfine
 simp only [Ex.fine, Bool.and_eq_true, decide_eq_true_eq, Tree.fits] at hf3
 refine s_skip ?_
 refine Se rfl ?_
 refine o_lOS rfl .free rfl ?_
 refine o_call rfl .free rfl (f_form_plain hrep hfine _) ?_
 rintro _ J2 _ e2 ⟨ds, rfl, hr, rfl⟩
 obtain ⟨od, cd, _, rfl, -⟩ := hr.open
 refine Om rfl ?_
 refine o_extract rfl rfl .free rfl ?_
 refine o_extract rfl rfl .free rfl ?_
 refine o_alloc .free rfl ?_
 intro b6
 refine o_st rfl rfl rfl rfl .free ?_
 refine Oa rfl ?_
 refine o_done ?_
 refine s_seq ?_
 refine Se rfl ?_
 refine Om rfl ?_
 refine o_not rfl .free rfl ?_
 refine o_done ?_
 first | refine s_fp rfl (by simp) ?_ | refine s_fn rfl (by simp) ?_ | refine s_false (by simp [look, opd, *]) ?_
 refine s_skip ?_
 refine Se rfl ?_
 refine o_lOS rfl .free rfl ?_
 refine o_call rfl .free rfl (f_form_text hr (by rw [Tree.text_len]; unfold maxN; omega) _) ?_
 rintro _ _ _ _ ⟨rfl, rfl, rfl⟩
 refine Oa rfl ?_
 refine Oa rfl ?_
 refine o_done ?_
 refine s_ret (.tmp rfl (.tmp rfl .nil)) ?_
 exact ⟨J2, L, hleJ.trans e2, drops, by rw [hpl]; rfl, rfl⟩
end Go.Proofs.YtjhjhepjchdpgaaGreatDoor


/- Regions that draw their order: a state that several orders come to, told once. No conditions. -/
namespace Go.Proofs.YtjhjhepjchdpgaaGreatDoor
set_option maxRecDepth 100000
set_option linter.unusedVariables false
set_option linter.unusedSimpArgs false

section
variable {I : Heap} {A B C D L : Own} {w : World}
end
end Go.Proofs.YtjhjhepjchdpgaaGreatDoor


/- Plain names given to an expression, by the reference. No conditions. -/
namespace Go.Proofs.YtjhjhepjchdpgaaGreatDoor
set_option maxRecDepth 100000
set_option linter.unusedVariables false
set_option linter.unusedSimpArgs false

/-- What a state of many orders has. -/
structure G11 where
 b6 : Nat
 b14 : Nat
 b16 : Nat
 b20 : Nat
 B : Buf
 c : Nat
 D : Buf
 e : Nat
end Go.Proofs.YtjhjhepjchdpgaaGreatDoor


/- 'ExprPut', by the program and by the reference. No conditions. -/
namespace Go.Proofs.YtjhjhepjchdpgaaGreatDoor
set_option maxRecDepth 100000
set_option linter.unusedVariables false
set_option linter.unusedSimpArgs false

/-- What 'ExprPut' returns. -/
def putOf (s nm by' : Txt) : Option Txt := match exOf s, closedOf by' with
 | some e, some v => if isName nm = true ∧ (e.put nm v).fine = true then some (e.put nm v).tree.text else none
 | _, _ => none
end Go.Proofs.YtjhjhepjchdpgaaGreatDoor


/- 'ExprPlain', by the reference. No conditions. -/
namespace Go.Proofs.YtjhjhepjchdpgaaGreatDoor
set_option maxRecDepth 100000
set_option linter.unusedVariables false
set_option linter.unusedSimpArgs false

/-- A buffer of texts that is written no more, within a region. -/
theorem o_freezeStrs {P : Program} {f : FuncId} {n : Nat} {I₀ : Heap} {Q : Post} {k : List Item} {E : Env} {I : Heap} {L : Own} {ops : Array Oper} {ol : List Oper} {e : TypeId} {l : List Txt} {B : Buf} {m c : Nat}
  (hB : BufOk 1 m c (l.map sv) B) (hm : m = l.length) (hlen : l.length ≤ maxN) (hs : ∀ s ∈ l, s.length ≤ maxN)
  (h : ∀ I' oa c', HLe I I' → bufVal m c B = .slice oa l.length c' → Strs I' oa l c' → RunO P f n I₀ Q ops ol k E I' L) : RunO P f n I₀ Q ops ol k E I (bufOwn e (l.map sv) B ++ L) := by
 cases B with
 | none =>
  obtain ⟨h1, h2, h3⟩ := hB
  obtain rfl : l = [] := by simpa using h1
  exact h I .none 0 (.refl _) rfl ⟨by simp, by simp, by simp, hlen, hs⟩
 | some p =>
  obtain ⟨b, sp⟩ := p
  refine o_freeze fun hle => h _ (some ⟨b, 0, .none⟩) c hle (by rw [← hm]; rfl) ⟨fun y hy => ?_, by simp, by have := hB.2.1; omega, hlen, hs⟩
  cases hy; exact still_set
end Go.Proofs.YtjhjhepjchdpgaaGreatDoor


/- A list's text, a valid environment by the program. No conditions. -/
namespace Go.Proofs.YtjhjhepjchdpgaaGreatDoor
set_option maxRecDepth 100000
set_option linter.unusedVariables false
set_option linter.unusedSimpArgs false

theorem x_hasText {I : Heap} {oa : Option Addr} {l : List Txt} {c : Nat} (h : Strs I oa l c) (s : Txt) (L : Own) :
  Fun Tryz.prog 9 [.slice oa l.length c, .string (str s)] I L (Only (.bool (decide (s ∈ l))) I L) := by
 have hlen := h.len
 unfold maxN at hlen
 refine fun_intro (by simp) ?_
 refine Se rfl ?_
 refine Oa rfl ?_
 refine o_done ?_
 refine s_seq ?_
 refine Se rfl ?_
 refine Oa rfl ?_
 refine o_done ?_
 refine s_block ?_
 refine s_while (X := Nat) (fun i => l.length - i) (fun i => [(0, .slice oa l.length c), (1, .string (str s)), (5, .int .i64 (i : Nat))]) (fun _ => I) (fun _ => L) (fun i => i ≤ l.length ∧ s ∉ l.take i) 0 ⟨by simp, by simp⟩ ⟨rfl, rfl, rfl, trivial⟩ (fun _ h => h) ?_
 rintro i ⟨hi, hs⟩ ih
 refine s_seq ?_
 refine Se rfl ?_
 refine Om rfl ?_
 refine Om rfl ?_
 refine o_len_slice rfl .free rfl ?_
 refine o_cmp rfl rfl rfl .free rfl ?_
 refine o_done ?_
 first | refine s_if rfl ?_ ?_ | refine s_ifn rfl ?_ ?_ | refine s_cond rfl ?_ ?_
 ·intro c0
  obtain ⟨x, hx, hst⟩ := h.at i (by omega)
  refine s_skip ?_
  refine s_seq ?_
  refine s_block ?_
  refine Se rfl ?_
  refine Om rfl ?_
  refine Om rfl ?_
  refine o_indexAddr' rfl rfl _ rfl (by first | omega | exact lt_of (by assumption) (by decide) | (simp; done) | (simp; omega) | decide | (simp at *; omega)) (by first | rfl | assumption) .free rfl ?_
  refine o_lS rfl .free rfl ?_
  refine Om rfl ?_
  refine o_cmps rfl rfl rfl .free rfl ?_
  refine o_done ?_
  first | refine s_if rfl ?_ ?_ | refine s_ifn rfl ?_ ?_ | refine s_cond rfl ?_ ?_
  ·intro c1
   refine Se rfl ?_
   refine Oa rfl ?_
   refine o_done ?_
   refine s_ret (.tmp rfl .nil) ?_
   refine only rfl ?_
   have : s ∈ l := by have h2 := List.getElem_mem (show i < l.length by omega); rwa [c1] at h2
   simp [retOne, this]
  intro c1
  refine s_skip ?_
  refine s_inBlock ?_
  refine o_enter rfl ?_
  refine Om rfl ?_
  refine o_arith rfl rfl rfl (by omega) .free rfl ?_
  refine Oa rfl ?_
  refine o_done ?_
  refine s_env (E' := [(0, .slice oa l.length c), (1, .string (str s)), (5, .int .i64 ((i + 1 : Nat)))]) ⟨rfl, rfl, rfl, trivial⟩ (ih (i + 1) ⟨by omega, ?_⟩ (by omega))
  rw [List.take_succ_eq_append_getElem (by omega), List.mem_append]
  rintro (h1 | h1)
  ·exact hs h1
  ·exact c1 (List.mem_singleton.1 h1).symm
 intro c0
 refine s_exit rfl ?_
 refine Se rfl ?_
 refine Oa rfl ?_
 refine o_done ?_
 refine s_ret (.tmp rfl .nil) ?_
 refine only rfl ?_
 have : s ∉ l := by rwa [List.take_of_length_le (by omega)] at hs
 simp [retOne, this]

end Go.Proofs.YtjhjhepjchdpgaaGreatDoor


/- 'TypeValid', by the program. No conditions. -/
namespace Go.Proofs.YtjhjhepjchdpgaaGreatDoor
set_option maxRecDepth 100000
set_option linter.unusedVariables false
set_option linter.unusedSimpArgs false

theorem f_TypeValid (s : Txt) (hs : s.length ≤ maxN) (I : Heap) (L : Own) : Fun Tryz.prog 10 [.string (str s)] I L (fun v I' L' => v = .bool (typeOf s).isSome ∧ L = L') := by
 refine fun_intro (by simp) ?_
 refine Se rfl ?_
 refine Oa rfl ?_
 refine o_done ?_
 refine Se rfl ?_
 refine Om rfl ?_
 refine o_call rfl .free rfl (f_readType s hs _ _) ?_
 rintro _ J _ e ⟨t, cs, ok, rfl, hrep, rfl, hpf⟩
 obtain ⟨o1, k1, _, rfl, -⟩ := hrep.open
 refine Om rfl ?_
 refine o_extract rfl rfl .free rfl ?_
 refine o_extract rfl rfl .free rfl ?_
 refine o_alloc .free rfl ?_
 intro b3
 refine o_st rfl rfl rfl rfl .free ?_
 refine Oa rfl ?_
 refine o_done ?_
 refine Se rfl ?_
 refine Om rfl ?_
 refine Oa rfl ?_
 refine o_done ?_
 refine s_ret (.tmp rfl .nil) ?_
 refine ⟨J, L, e, drops, ?_, rfl⟩
 rw [typeOf_true hpf]; cases ok <;> rfl
end Go.Proofs.YtjhjhepjchdpgaaGreatDoor


/- A type leans only on the names that stand free; what is put for a name of its type keeps the type. No conditions. -/
namespace Go.Proofs.YtjhjhepjchdpgaaGreatDoor
set_option maxRecDepth 100000
set_option linter.unusedVariables false
set_option linter.unusedSimpArgs false

theorem lastAt_app {l r : List Txt} {y : Txt} : ∀ {n : Nat}, n ≤ l.length → lastAt (l ++ r) y n = lastAt l y n
 | 0, _ => rfl
 | n + 1, h => by
  simp only [lastAt]
  rw [show (l ++ r).getD n [] = l.getD n [] by simp [List.getElem?_append_left (show n < l.length by omega)], lastAt_app (by omega)]
theorem lastIdx_add (l : List Txt) (x y : Txt) : lastIdx (l ++ [x]) y = if x = y then some l.length else lastIdx l y := by
 unfold lastIdx
 rw [show (l ++ [x]).length = l.length + 1 by simp]
 simp only [lastAt]
 rw [show (l ++ [x]).getD l.length [] = x by simp, lastAt_app (Nat.le_refl _)]
theorem tyLook_add {l : List Txt} {m : List Ty} (h : l.length = m.length) (x y : Txt) (s : Ty) : tyLook (l ++ [x]) (m ++ [s]) y = if x = y then some s else tyLook l m y := by
 unfold tyLook
 rw [lastIdx_add]
 by_cases hx : x = y
 ·rw [if_pos hx, if_pos hx]; simp [h]
 ·rw [if_neg hx, if_neg hx]
  cases hi : lastIdx l y with
  | none => rfl
  | some i =>
   have h1 := (lastAt_lt (show lastAt l y l.length = some i from hi)).1
   simp [List.getElem?_append_left (show i < m.length by omega)]
theorem tyLook_add2 {l : List Txt} {m : List Ty} (h : l.length = m.length) (f x y : Txt) (s t : Ty) : tyLook (l ++ [f, x]) (m ++ [s, t]) y = if x = y then some t else if f = y then some s else tyLook l m y := by
 have h1 := tyLook_add (l := l ++ [f]) (m := m ++ [s]) (by simp [h]) x y t
 rw [tyLook_add h, List.append_assoc, List.append_assoc] at h1
 exact h1
theorem Ex.chk_congr : ∀ {e : Ex} {l l' : List Txt} {m m' : List Ty}, l.length = m.length → l'.length = m'.length → (∀ x ∈ e.occ [], tyLook l m x = tyLook l' m' x) → e.chk l m = e.chk l' m'
 | .num _, l, l', m, m', _, _, _ => rfl
 | .name s, l, l', m, m', _, _, h => by
  have := h s (by simp [Ex.occ])
  simp only [Ex.chk, this]
 | .bin o a b, l, l', m, m', h1, h2, h => by
  simp only [Ex.occ, List.mem_append] at h
  simp only [Ex.chk, Ex.chk_congr h1 h2 fun x hx => h x (.inl hx), Ex.chk_congr h1 h2 fun x hx => h x (.inr hx)]
 | .ite a b c, l, l', m, m', h1, h2, h => by
  simp only [Ex.occ, List.mem_append] at h
  simp only [Ex.chk, Ex.chk_congr h1 h2 fun x hx => h x (.inl (.inl hx)), Ex.chk_congr h1 h2 fun x hx => h x (.inl (.inr hx)), Ex.chk_congr h1 h2 fun x hx => h x (.inr hx)]
 | .lt y a b, l, l', m, m', h1, h2, h => by
  simp only [Ex.occ, List.mem_append, List.nil_append] at h
  simp only [Ex.chk, Ex.chk_congr h1 h2 fun x hx => h x (.inl hx)]
  cases a.chk l' m' with
  | error x => rfl
  | ok s =>
   refine Ex.chk_congr (by simp [h1]) (by simp [h2]) fun x hx => ?_
   rw [tyLook_add h1, tyLook_add h2]
   by_cases hy : y = x
   ·rw [if_pos hy, if_pos hy]
   ·rw [if_neg hy, if_neg hy]
    exact h x (.inr (Ex.occ_mem.2 ⟨hx, by simp only [List.mem_singleton]; exact fun e => hy e.symm⟩))
 | .fn f y s t b, l, l', m, m', h1, h2, h => by
  simp only [Ex.occ, List.nil_append] at h
  simp only [Ex.chk]
  rw [Ex.chk_congr (e := b) (l := l ++ [f, y]) (l' := l' ++ [f, y]) (m := m ++ [.fn s t, s]) (m' := m' ++ [.fn s t, s]) (by simp [h1]) (by simp [h2]) fun x hx => ?_]
  rw [tyLook_add2 h1, tyLook_add2 h2]
  by_cases hy : y = x
  ·rw [if_pos hy, if_pos hy]
  ·rw [if_neg hy, if_neg hy]
   by_cases hf : f = x
   ·rw [if_pos hf, if_pos hf]
   ·rw [if_neg hf, if_neg hf]
    refine h x (Ex.occ_mem.2 ⟨hx, ?_⟩)
    simp only [List.mem_cons, List.not_mem_nil, or_false]
    rintro (e | e)
    ·exact hf e.symm
    ·exact hy e.symm
 | .un o a, l, l', m, m', h1, h2, h => by
  simp only [Ex.occ] at h
  simp only [Ex.chk, Ex.chk_congr h1 h2 h]
end Go.Proofs.YtjhjhepjchdpgaaGreatDoor


/- Expressions that are alike: names that are bound told by their places. No conditions. -/
namespace Go.Proofs.YtjhjhepjchdpgaaGreatDoor
set_option maxRecDepth 100000
set_option linter.unusedVariables false
set_option linter.unusedSimpArgs false

theorem lastIdx_app (l : List Txt) (y : Txt) : ∀ (a : List Txt), lastIdx (l ++ a) y = match lastIdx a y with | some i => some (l.length + i) | none => lastIdx l y := by
 intro a
 induction a generalizing l with
 | nil => rw [List.append_nil]; rfl
 | cons x a ih =>
  have h1 := ih (l ++ [x])
  have h2 := ih [x]
  rw [List.append_assoc] at h1
  simp only [List.cons_append, List.nil_append] at h1 h2
  rw [h1, h2, lastIdx_add]
  have h3 := lastIdx_add [] x y
  simp only [List.nil_append, List.length_nil] at h3
  rw [h3]
  cases lastIdx a y with
  | some i => simp only [List.length_append, List.length_cons, List.length_nil]; congr 1; omega
  | none =>
   simp only
   by_cases e : x = y
   ·rw [if_pos e, if_pos e]; simp
   ·rw [if_neg e, if_neg e]; rfl
theorem lastIdx_lt {l : List Txt} {y : Txt} {i : Nat} (h : lastIdx l y = some i) : i < l.length ∧ l.getD i [] = y := lastAt_lt h
theorem lastIdx_none {l : List Txt} {y : Txt} : lastIdx l y = none ↔ y ∉ l := by
 induction l with
 | nil => simp [lastIdx, lastAt]
 | cons x l ih =>
  have h := lastIdx_app [x] y l
  simp only [List.cons_append, List.nil_append] at h
  rw [h]
  have h3 := lastIdx_add [] x y
  simp only [List.nil_append, List.length_nil] at h3
  rw [h3]
  cases hl : lastIdx l y with
  | some i =>
   have := lastAt_mem hl
   simp [this]
  | none =>
   rw [hl] at ih
   have h4 : y ∉ l := ih.1 rfl
   by_cases e : x = y
   ·simp [e]
   ·rw [if_neg e]
    simp only [List.mem_cons, not_or]
    exact ⟨fun _ => ⟨fun e' => e e'.symm, h4⟩, fun _ => rfl⟩
theorem lastIdx_nodup {l : List Txt} (h : l.Nodup) {i : Nat} (hi : i < l.length) : lastIdx l (l.getD i []) = some i := by
 cases hx : lastIdx l (l.getD i []) with
 | none =>
  rw [lastIdx_none] at hx
  exact absurd (by rw [show l.getD i [] = l[i] by simp [hi]]; exact List.getElem_mem hi) hx
 | some j =>
  obtain ⟨h1, h2⟩ := lastIdx_lt hx
  rw [show l.getD j [] = l[j] by simp [h1], show l.getD i [] = l[i] by simp [hi]] at h2
  rw [(List.getElem_inj h).1 h2]
/-- A bound name, told by its place. -/
def bnd (i : Nat) : Txt := 0 :: List.replicate i 0
theorem bnd_inj {i j : Nat} (h : bnd i = bnd j) : i = j := by
 have := congrArg List.length h
 simpa [bnd] using this
theorem bnd_name (i : Nat) : isName (bnd i) = false := by simp [bnd, isName, lower]
theorem bnd_ne {s : Txt} (h : isName s = true) (i : Nat) : bnd i ≠ s := fun e => by rw [← e, bnd_name] at h; cases h
def Ex.db : Ex → List Txt → Ex
 | .num s, _ => .num s
 | .name s, a => .name (match lastIdx a s with | some i => bnd i | none => s)
 | .bin o a b, l => .bin o (a.db l) (b.db l)
 | .ite a b c, l => .ite (a.db l) (b.db l) (c.db l)
 | .lt x a b, l => .lt [] (a.db l) (b.db (l ++ [x]))
 | .fn g x s t b, l => .fn [] [] s t (b.db (l ++ [g, x]))
 | .un o a, l => .un o (a.db l)
/-- Alike, as the program asks it. -/
def Ex.alk : Ex → Ex → List Txt → List Txt → Bool
 | .num s, .num t, _, _ => decide (s = t)
 | .name s, .name t, a, b => decide (lastIdx a s = lastIdx b t) && ((lastIdx a s).isSome || decide (s = t))
 | .bin o p q, .bin o' p' q', a, b => decide (o.txt = o'.txt) && p.alk p' a b && q.alk q' a b
 | .ite p q r, .ite p' q' r', a, b => p.alk p' a b && q.alk q' a b && r.alk r' a b
 | .lt x p q, .lt x' p' q', a, b => p.alk p' a b && q.alk q' (a ++ [x]) (b ++ [x'])
 | .fn g x s t q, .fn g' x' s' t' q', a, b => decide (s = s') && decide (t = t') && q.alk q' (a ++ [g, x]) (b ++ [g', x'])
 | .un o p, .un o' p', a, b => decide (o.txt = o'.txt) && p.alk p' a b
 | _, _, _, _ => false
/-- Names that plain names are given: new, each once. -/
def freshT (av t : List Txt) (n : Nat) : Prop := t.Nodup ∧ ∀ x ∈ t, x ∉ av ∧ ∃ k, k < n ∧ x = nm 120 k
theorem freshT.up {av t : List Txt} {n m : Nat} (h : freshT av t n) (hm : n ≤ m) : freshT av t m := ⟨h.1, fun x hx => by obtain ⟨h1, k, h2, h3⟩ := h.2 x hx; exact ⟨h1, k, by omega, h3⟩⟩
theorem freshT.add {av t : List Txt} {n k : Nat} (h : freshT av t n) (hk : n ≤ k) (ha : nm 120 k ∉ av) : freshT av (t ++ [nm 120 k]) (k + 1) := by
 refine ⟨?_, fun x hx => ?_⟩
 ·rw [List.nodup_append]
  refine ⟨h.1, by simp, ?_⟩
  intro x hx y hy e
  simp only [List.mem_singleton] at hy
  subst hy; subst e
  obtain ⟨_, j, hj, e⟩ := h.2 _ hx
  have := nm_inj e
  omega
 ·rcases List.mem_append.1 hx with hx | hx
  ·obtain ⟨h1, j, h2, h3⟩ := h.2 x hx; exact ⟨h1, j, by omega, h3⟩
  ·simp only [List.mem_singleton] at hx; subst hx; exact ⟨ha, k, by omega, rfl⟩
/-- An expression is alike to its plain one. -/
theorem Ex.db_pl {av : List Txt} : ∀ {e : Ex} {f t : List Txt} {n : Nat}, f.length = t.length → freshT av t n → (∀ x ∈ e.occ f, x ∈ av) → (e.pl av f t n).1.db t = e.db f := by
 intro e
 induction e with
 | num s => intro f t n _ _ _; rfl
 | name s =>
  intro f t n hft hfr ho
  simp only [Ex.pl, Ex.db]
  cases hs : lastIdx f s with
  | none =>
   have h1 : s ∉ f := lastIdx_none.1 hs
   have h2 := ho s (by simp [Ex.occ, h1])
   have h3 : lastIdx t s = none := lastIdx_none.2 fun hm => (hfr.2 s hm).1 h2
   simp only [h3]
  | some i =>
   have h1 := (lastIdx_lt hs).1
   simp only [lastIdx_nodup hfr.1 (show i < t.length by omega)]
 | bin o p q ih1 ih2 =>
  intro f t n hft hfr ho
  simp only [Ex.occ, List.mem_append] at ho
  simp only [Ex.pl, Ex.db, ih1 hft hfr fun x hx => ho x (.inl hx), ih2 hft (hfr.up (p.pl_hits av f t n).1) fun x hx => ho x (.inr hx)]
 | ite p q r ih1 ih2 ih3 =>
  intro f t n hft hfr ho
  simp only [Ex.occ, List.mem_append] at ho
  have h1 := (p.pl_hits av f t n).1
  have h2 := (q.pl_hits av f t (p.pl av f t n).2).1
  simp only [Ex.pl, Ex.db, ih1 hft hfr fun x hx => ho x (.inl (.inl hx)), ih2 hft (hfr.up h1) fun x hx => ho x (.inl (.inr hx)), ih3 hft (hfr.up (Nat.le_trans h1 h2)) fun x hx => ho x (.inr hx)]
 | lt x p q ih1 ih2 =>
  intro f t n hft hfr ho
  simp only [Ex.occ, List.mem_append] at ho
  obtain ⟨f1, f2, f3⟩ := fr_facts 120 av n
  have h1 := (p.pl_hits av f t (fr 120 av n + 1)).1
  simp only [Ex.pl, Ex.db, ih1 hft (hfr.up (show n ≤ fr 120 av n + 1 by omega)) fun x hx => ho x (.inl hx),
   ih2 (f := f ++ [x]) (t := t ++ [nm 120 (fr 120 av n)]) (by simp [hft]) ((hfr.add f2 f1).up h1) fun x hx => ho x (.inr hx)]
 | fn g x s u q ih =>
  intro f t n hft hfr ho
  simp only [Ex.occ] at ho
  obtain ⟨f1, f2, f3⟩ := fr_facts 120 av n
  obtain ⟨g1, g2, g3⟩ := fr_facts 120 av (fr 120 av n + 1)
  have hh := ((hfr.add f2 f1).add g2 g1)
  rw [List.append_assoc] at hh
  simp only [List.cons_append, List.nil_append] at hh
  simp only [Ex.pl, Ex.db, ih (f := f ++ [g, x]) (t := t ++ [nm 120 (fr 120 av n), nm 120 (fr 120 av (fr 120 av n + 1))]) (by simp [hft]) hh ho]
 | un o p ih =>
  intro f t n hft hfr ho
  simp only [Ex.occ] at ho
  simp only [Ex.pl, Ex.db, ih hft hfr ho]
theorem plain_db (e : Ex) : e.plain.db [] = e.db [] := Ex.db_pl rfl ⟨by simp, by simp⟩ fun x hx => Ex.free_mem.2 hx
/-- The free names of what is told by places. -/
def Ex.fv : Ex → List Txt
 | .num _ => []
 | .name s => if isName s = true then [s] else []
 | .bin _ a b => a.fv ++ b.fv
 | .ite a b c => a.fv ++ b.fv ++ c.fv
 | .lt _ a b => a.fv ++ b.fv
 | .fn _ _ _ _ b => b.fv
 | .un _ a => a.fv
theorem Ex.occ_db : ∀ {e : Ex} {a : List Txt}, e.ok = true → e.occ a = (e.db a).fv := by
 intro e
 induction e with
 | num s => intro a _; rfl
 | name s =>
  intro a h
  simp only [Ex.ok] at h
  simp only [Ex.occ, Ex.db, Ex.fv]
  cases hs : lastIdx a s with
  | none => simp only [if_pos h]; rw [if_neg (lastIdx_none.1 hs)]
  | some i => simp only [bnd_name, Bool.false_eq_true, if_false]; rw [if_pos (lastAt_mem hs)]
 | bin o p q ih1 ih2 => intro a h; simp only [Ex.ok, Bool.and_eq_true] at h; simp only [Ex.occ, Ex.db, Ex.fv, ih1 h.1, ih2 h.2]
 | ite p q r ih1 ih2 ih3 => intro a h; simp only [Ex.ok, Bool.and_eq_true] at h; simp only [Ex.occ, Ex.db, Ex.fv, ih1 h.1.1, ih2 h.1.2, ih3 h.2]
 | lt x p q ih1 ih2 => intro a h; simp only [Ex.ok, Bool.and_eq_true] at h; simp only [Ex.occ, Ex.db, Ex.fv, ih1 h.1.2, ih2 h.2]
 | fn g x s u q ih => intro a h; simp only [Ex.ok, Bool.and_eq_true] at h; simp only [Ex.occ, Ex.db, Ex.fv, ih h.2]
 | un o p ih => intro a h; simp only [Ex.ok] at h; simp only [Ex.occ, Ex.db, Ex.fv, ih h]
/-- Two expressions that are alike. -/
def Ex.as (e e' : Ex) : Prop := e.db [] = e'.db []
theorem Ex.as.free {e e' : Ex} (h : e.as e') (ho : e.ok = true) (ho' : e'.ok = true) : e.free = e'.free ∧ e.occ [] = e'.occ [] := by
 have h1 : e.occ [] = e'.occ [] := by rw [Ex.occ_db ho, Ex.occ_db ho', show e.db [] = e'.db [] from h]
 exact ⟨by unfold Ex.free; rw [h1], h1⟩
theorem Ex.plain_as (e : Ex) : e.plain.as e := plain_db e
/-- Sizes. -/
theorem Ex.db_size : ∀ (e : Ex) (a : List Txt), (e.db a).size = e.size ∧ (e.db a).tree.depth = e.tree.depth := by
 intro e
 induction e with
 | num s => intro a; exact ⟨rfl, rfl⟩
 | name s => intro a; exact ⟨rfl, rfl⟩
 | bin o p q ih1 ih2 => intro a; obtain ⟨h1, h2⟩ := ih1 a; obtain ⟨h3, h4⟩ := ih2 a; simp only [Ex.db, Ex.size, Ex.tree, Tree.depth, depthL, List.isEmpty_cons, cond_false, h1, h2, h3, h4, and_self]
 | ite p q r ih1 ih2 ih3 => intro a; obtain ⟨h1, h2⟩ := ih1 a; obtain ⟨h3, h4⟩ := ih2 a; obtain ⟨h5, h6⟩ := ih3 a; simp only [Ex.db, Ex.size, Ex.tree, Tree.depth, depthL, List.isEmpty_cons, cond_false, h1, h2, h3, h4, h5, h6, and_self]
 | lt x p q ih1 ih2 => intro a; obtain ⟨h1, h2⟩ := ih1 a; obtain ⟨h3, h4⟩ := ih2 (a ++ [x]); simp only [Ex.db, Ex.size, Ex.tree, Tree.depth, depthL, List.isEmpty_cons, List.isEmpty_nil, cond_true, cond_false, h1, h2, h3, h4, and_self]
 | fn g x s u q ih => intro a; obtain ⟨h1, h2⟩ := ih (a ++ [g, x]); simp only [Ex.db, Ex.size, Ex.tree, Tree.depth, depthL, List.isEmpty_cons, List.isEmpty_nil, cond_true, cond_false, h1, h2, and_self]
 | un o p ih => intro a; obtain ⟨h1, h2⟩ := ih a; simp only [Ex.db, Ex.size, Ex.tree, Tree.depth, depthL, List.isEmpty_cons, cond_false, h1, h2, and_self]
theorem Ex.as.size {e e' : Ex} (h : e.as e') : e.size = e'.size ∧ e.tree.depth = e'.tree.depth := by
 have h1 := e.db_size []
 have h2 := e'.db_size []
 rw [show e.db [] = e'.db [] from h] at h1
 exact ⟨h1.1.symm.trans h2.1, h1.2.symm.trans h2.2⟩
/-- Closed expressions look the same behind any names. -/
theorem Ex.db_in : ∀ {v : Ex} {a b c : List Txt}, a.length = b.length → v.occ c = [] → v.db (a ++ c) = v.db (b ++ c) := by
 intro v
 induction v with
 | num s => intro a b c _ _; rfl
 | name s =>
  intro a b c hl h
  simp only [Ex.occ] at h
  have hc : s ∈ c := by
   by_cases hm : s ∈ c
   ·exact hm
   ·rw [if_neg hm] at h; cases h
  simp only [Ex.db, lastIdx_app]
  cases hs : lastIdx c s with
  | none => exact absurd hc (lastIdx_none.1 hs)
  | some i => simp only [hl]
 | bin o p q ih1 ih2 => intro a b c hl h; simp only [Ex.occ, List.append_eq_nil_iff] at h; simp only [Ex.db, ih1 hl h.1, ih2 hl h.2]
 | ite p q r ih1 ih2 ih3 => intro a b c hl h; simp only [Ex.occ, List.append_eq_nil_iff] at h; simp only [Ex.db, ih1 hl h.1.1, ih2 hl h.1.2, ih3 hl h.2]
 | lt x p q ih1 ih2 => intro a b c hl h; simp only [Ex.occ, List.append_eq_nil_iff] at h; simp only [Ex.db, List.append_assoc, ih1 hl h.1, ih2 hl h.2]
 | fn g x s u q ih => intro a b c hl h; simp only [Ex.occ] at h; simp only [Ex.db, List.append_assoc, ih hl h]
 | un o p ih => intro a b c hl h; simp only [Ex.occ] at h; simp only [Ex.db, ih hl h]
theorem Ex.db_cl {v : Ex} (h : v.occ [] = []) {a b : List Txt} (hl : a.length = b.length) : v.db a = v.db b := by
 have := Ex.db_in (v := v) (c := []) hl h
 simpa using this
/-- Something put for a name, unless it is bound around. -/
def Ex.putIf (e : Ex) (n : Txt) (v : Ex) (a : List Txt) : Ex := if n ∈ a then e else e.put n v
theorem putIf_in {e : Ex} {n : Txt} {v : Ex} {a : List Txt} (h : n ∈ a) : e.putIf n v a = e := if_pos h
theorem putIf_out {e : Ex} {n : Txt} {v : Ex} {a : List Txt} (h : n ∉ a) : e.putIf n v a = e.put n v := if_neg h
theorem putIf_bin (o : B5) (p q : Ex) (n : Txt) (v : Ex) (a : List Txt) : (Ex.bin o p q).putIf n v a = .bin o (p.putIf n v a) (q.putIf n v a) := by unfold Ex.putIf; split <;> rfl
theorem putIf_ite (p q r : Ex) (n : Txt) (v : Ex) (a : List Txt) : (Ex.ite p q r).putIf n v a = .ite (p.putIf n v a) (q.putIf n v a) (r.putIf n v a) := by unfold Ex.putIf; split <;> rfl
theorem putIf_un (o : U2) (p : Ex) (n : Txt) (v : Ex) (a : List Txt) : (Ex.un o p).putIf n v a = .un o (p.putIf n v a) := by unfold Ex.putIf; split <;> rfl
theorem putIf_lt (x : Txt) (p q : Ex) (n : Txt) (v : Ex) (a : List Txt) : (Ex.lt x p q).putIf n v a = .lt x (p.putIf n v a) (q.putIf n v (a ++ [x])) := by
 unfold Ex.putIf
 simp only [List.mem_append, List.mem_singleton, Ex.put]
 by_cases h : n ∈ a
 ·simp [h]
 ·by_cases h2 : x = n
  ·subst h2; simp [h]
  ·have h3 : ¬ n = x := fun e => h2 e.symm
   simp [h, h2, h3]
theorem putIf_fn (g x : Txt) (s u : Ty) (q : Ex) (n : Txt) (v : Ex) (a : List Txt) : (Ex.fn g x s u q).putIf n v a = .fn g x s u (q.putIf n v (a ++ [g, x])) := by
 unfold Ex.putIf
 simp only [List.mem_append, List.mem_cons, List.not_mem_nil, or_false, Ex.put]
 by_cases h : n ∈ a
 ·simp [h]
 ·by_cases h2 : g = n ∨ x = n
  ·have : n = g ∨ n = x := h2.imp Eq.symm Eq.symm
   simp [h, h2, this]
  ·have : ¬ (n = g ∨ n = x) := fun e => h2 (e.imp Eq.symm Eq.symm)
   simp [h, h2, this]
theorem Ex.put_db {n : Txt} {v : Ex} (hv : v.occ [] = []) : ∀ {e e' : Ex} {a b : List Txt}, a.length = b.length → e.ok = true → e'.ok = true → e.db a = e'.db b → (e.putIf n v a).db a = (e'.putIf n v b).db b := by
 intro e
 induction e with
 | num s => intro e' a b hl h h' hd; cases e' <;> simp only [Ex.db, reduceCtorEq] at hd; cases hd; unfold Ex.putIf; split <;> split <;> rfl
 | name s =>
  intro e' a b hl h h' hd
  cases e' <;> simp only [Ex.db, reduceCtorEq] at hd
  rename_i s'
  simp only [Ex.ok] at h h'
  simp only [Ex.name.injEq] at hd
  cases hs : lastIdx a s with
  | none => cases ht : lastIdx b s' with
   | none =>
    rw [hs, ht] at hd; simp only at hd; subst hd
    have h1 := lastIdx_none.1 hs
    have h2 := lastIdx_none.1 ht
    by_cases e : s = n
    ·subst e
     rw [putIf_out h1, putIf_out h2]
     simp only [Ex.put, if_true]
     exact Ex.db_cl hv hl
    ·have h3 : ∀ c, (Ex.name s).putIf n v c = .name s := fun c => by unfold Ex.putIf; split <;> simp [Ex.put, e]
     rw [h3, h3]; simp only [Ex.db, hs, ht]
   | some j => rw [hs, ht] at hd; exact absurd hd.symm (bnd_ne h j)
  | some i => cases ht : lastIdx b s' with
   | none => rw [hs, ht] at hd; exact absurd hd (bnd_ne h' i)
   | some j =>
    rw [hs, ht] at hd
    have h3 : ∀ {c : List Txt} {z : Txt}, z ∈ c → (Ex.name z).putIf n v c = .name z := fun {c z} hz => by
     by_cases e : z = n
     ·subst e; exact putIf_in hz
     ·unfold Ex.putIf; split <;> simp [Ex.put, e]
    rw [h3 (lastAt_mem hs), h3 (lastAt_mem ht)]
    simp only [Ex.db, hs, ht, bnd_inj hd]
 | bin o p q ih1 ih2 =>
  intro e' a b hl h h' hd
  cases e' <;> simp only [Ex.db, reduceCtorEq] at hd
  simp only [Ex.ok, Bool.and_eq_true] at h h'
  simp only [Ex.bin.injEq] at hd
  simp only [putIf_bin, Ex.db, ih1 hl h.1 h'.1 hd.2.1, ih2 hl h.2 h'.2 hd.2.2, hd.1]
 | ite p q r ih1 ih2 ih3 =>
  intro e' a b hl h h' hd
  cases e' <;> simp only [Ex.db, reduceCtorEq] at hd
  simp only [Ex.ok, Bool.and_eq_true] at h h'
  simp only [Ex.ite.injEq] at hd
  simp only [putIf_ite, Ex.db, ih1 hl h.1.1 h'.1.1 hd.1, ih2 hl h.1.2 h'.1.2 hd.2.1, ih3 hl h.2 h'.2 hd.2.2]
 | lt x p q ih1 ih2 =>
  intro e' a b hl h h' hd
  cases e' <;> simp only [Ex.db, reduceCtorEq] at hd
  rename_i x' p' q'
  simp only [Ex.ok, Bool.and_eq_true] at h h'
  simp only [Ex.lt.injEq] at hd
  simp only [putIf_lt, Ex.db, ih1 hl h.1.2 h'.1.2 hd.2.1, ih2 (a := a ++ [x]) (b := b ++ [x']) (by simp [hl]) h.2 h'.2 hd.2.2]
 | fn g x s u q ih =>
  intro e' a b hl h h' hd
  cases e' <;> simp only [Ex.db, reduceCtorEq] at hd
  rename_i g' x' s' u' q'
  simp only [Ex.ok, Bool.and_eq_true] at h h'
  simp only [Ex.fn.injEq] at hd
  simp only [putIf_fn, Ex.db, ih (a := a ++ [g, x]) (b := b ++ [g', x']) (by simp [hl]) h.2 h'.2 hd.2.2.2.2, hd.2.2.1, hd.2.2.2.1]
 | un o p ih =>
  intro e' a b hl h h' hd
  cases e' <;> simp only [Ex.db, reduceCtorEq] at hd
  simp only [Ex.ok] at h h'
  simp only [Ex.un.injEq] at hd
  simp only [putIf_un, Ex.db, ih hl h h' hd.2, hd.1]
theorem Ex.as.put {e e' : Ex} (h : e.as e') (ho : e.ok = true) (ho' : e'.ok = true) {n : Txt} {v : Ex} (hv : v.occ [] = []) : (e.put n v).as (e'.put n v) := by
 have := Ex.put_db (n := n) hv (a := []) (b := []) rfl ho ho' h
 rwa [putIf_out (by simp), putIf_out (by simp)] at this
/- Types of alike expressions. -/
theorem ty_bin (o : B5) (a b : Ex) (l : List Txt) (m : List Ty) : (Ex.bin o a b).ty l m = (a.ty l m).bind fun s => (b.ty l m).bind fun t => o.ty s t := by
 unfold Ex.ty; simp only [Ex.chk]
 cases a.chk l m with
 | error x => rfl
 | ok s => cases b.chk l m with
  | error x => rfl
  | ok t => simp only [Option.bind_some]; cases o.ty s t <;> rfl
theorem ty_ite (a b c : Ex) (l : List Txt) (m : List Ty) : (Ex.ite a b c).ty l m = (a.ty l m).bind fun s => (b.ty l m).bind fun t => (c.ty l m).bind fun u => if s = .i ∧ t = u then some t else none := by
 unfold Ex.ty; simp only [Ex.chk]
 cases a.chk l m with
 | error x => rfl
 | ok s => cases b.chk l m with
  | error x => rfl
  | ok t => cases c.chk l m with
   | error x => rfl
   | ok u =>
    simp only [Option.bind_some]
    by_cases h : s = .i ∧ t = u
    ·rw [if_pos h, if_pos h]
    ·rw [if_neg h, if_neg h]
theorem ty_lt (x : Txt) (a b : Ex) (l : List Txt) (m : List Ty) : (Ex.lt x a b).ty l m = (a.ty l m).bind fun s => b.ty (l ++ [x]) (m ++ [s]) := by
 unfold Ex.ty; simp only [Ex.chk]
 cases a.chk l m <;> rfl
theorem ty_fn (f x : Txt) (s t : Ty) (b : Ex) (l : List Txt) (m : List Ty) : (Ex.fn f x s t b).ty l m = if (Ty.fn s t).size ≤ 16 then (b.ty (l ++ [f, x]) (m ++ [.fn s t, s])).bind fun u => if u = t then some (.fn s t) else none else none := by
 unfold Ex.ty; simp only [Ex.chk]
 by_cases h : (Ty.fn s t).size ≤ 16
 ·rw [if_pos h, if_pos h]
  cases b.chk (l ++ [f, x]) (m ++ [.fn s t, s]) with
  | error x => rfl
  | ok u =>
   simp only [Option.bind_some]
   by_cases h : u = t
   ·rw [if_pos h, if_pos h]
   ·rw [if_neg h, if_neg h]
 ·rw [if_neg h, if_neg h]
theorem ty_un (o : U2) (a : Ex) (l : List Txt) (m : List Ty) : (Ex.un o a).ty l m = (a.ty l m).bind fun s => o.ty s := by
 unfold Ex.ty; simp only [Ex.chk]
 cases a.chk l m with
 | error x => rfl
 | ok s => simp only [Option.bind_some]; cases o.ty s <;> rfl
theorem ty_name (s : Txt) (l : List Txt) (m : List Ty) : (Ex.name s).ty l m = tyLook l m s := by
 unfold Ex.ty; simp only [Ex.chk]
 cases tyLook l m s <;> rfl
theorem tyLook_app {l a : List Txt} {m k : List Ty} (h : l.length = m.length) (s : Txt) : tyLook (l ++ a) (m ++ k) s = match lastIdx a s with | some i => k[i]? | none => tyLook l m s := by
 unfold tyLook
 rw [lastIdx_app]
 cases hs : lastIdx a s with
 | some i => simp only [Option.bind_some, h]; rw [List.getElem?_append_right (by omega)]; congr 1; omega
 | none =>
  simp only
  cases hi : lastIdx l s with
  | none => rfl
  | some i =>
   have := (lastIdx_lt hi).1
   simp only [Option.bind_some]; rw [List.getElem?_append_left (by omega)]
theorem Ex.ty_db {l : List Txt} {m : List Ty} (hlm : l.length = m.length) : ∀ {e e' : Ex} {a b : List Txt} {k : List Ty}, a.length = k.length → b.length = k.length → e.ok = true → e'.ok = true → e.db a = e'.db b → e.ty (l ++ a) (m ++ k) = e'.ty (l ++ b) (m ++ k) := by
 intro e
 induction e with
 | num s => intro e' a b k h1 h2 h h' hd; cases e' <;> simp only [Ex.db, reduceCtorEq] at hd; rfl
 | name s =>
  intro e' a b k h1 h2 h h' hd
  cases e' <;> simp only [Ex.db, reduceCtorEq] at hd
  rename_i s'
  simp only [Ex.ok] at h h'
  simp only [Ex.name.injEq] at hd
  rw [ty_name, ty_name, tyLook_app hlm, tyLook_app hlm]
  cases hs : lastIdx a s with
  | none => cases ht : lastIdx b s' with
   | none => rw [hs, ht] at hd; simp only at hd; subst hd; rfl
   | some j => rw [hs, ht] at hd; exact absurd hd.symm (bnd_ne h j)
  | some i => cases ht : lastIdx b s' with
   | none => rw [hs, ht] at hd; exact absurd hd (bnd_ne h' i)
   | some j => rw [hs, ht] at hd; rw [bnd_inj hd]
 | bin o p q ih1 ih2 =>
  intro e' a b k h1 h2 h h' hd
  cases e' <;> simp only [Ex.db, reduceCtorEq] at hd
  simp only [Ex.ok, Bool.and_eq_true] at h h'
  simp only [Ex.bin.injEq] at hd
  rw [ty_bin, ty_bin, ih1 h1 h2 h.1 h'.1 hd.2.1, ih2 h1 h2 h.2 h'.2 hd.2.2, hd.1]
 | ite p q r ih1 ih2 ih3 =>
  intro e' a b k h1 h2 h h' hd
  cases e' <;> simp only [Ex.db, reduceCtorEq] at hd
  simp only [Ex.ok, Bool.and_eq_true] at h h'
  simp only [Ex.ite.injEq] at hd
  rw [ty_ite, ty_ite, ih1 h1 h2 h.1.1 h'.1.1 hd.1, ih2 h1 h2 h.1.2 h'.1.2 hd.2.1, ih3 h1 h2 h.2 h'.2 hd.2.2]
 | lt x p q ih1 ih2 =>
  intro e' a b k h1 h2 h h' hd
  cases e' <;> simp only [Ex.db, reduceCtorEq] at hd
  rename_i x' p' q'
  simp only [Ex.ok, Bool.and_eq_true] at h h'
  simp only [Ex.lt.injEq] at hd
  rw [ty_lt, ty_lt, ih1 h1 h2 h.1.2 h'.1.2 hd.2.1]
  congr 1; funext s
  have := ih2 (a := a ++ [x]) (b := b ++ [x']) (k := k ++ [s]) (by simp [h1]) (by simp [h2]) h.2 h'.2 hd.2.2
  simpa only [List.append_assoc] using this
 | fn g x s u q ih =>
  intro e' a b k h1 h2 h h' hd
  cases e' <;> simp only [Ex.db, reduceCtorEq] at hd
  rename_i g' x' s' u' q'
  simp only [Ex.ok, Bool.and_eq_true] at h h'
  simp only [Ex.fn.injEq] at hd
  obtain ⟨-, -, rfl, rfl, hd⟩ := hd
  have := ih (a := a ++ [g, x]) (b := b ++ [g', x']) (k := k ++ [.fn s u, s]) (by simp [h1]) (by simp [h2]) h.2 h'.2 hd
  simp only [← List.append_assoc] at this
  rw [ty_fn, ty_fn, this]
 | un o p ih =>
  intro e' a b k h1 h2 h h' hd
  cases e' <;> simp only [Ex.db, reduceCtorEq] at hd
  simp only [Ex.ok] at h h'
  simp only [Ex.un.injEq] at hd
  rw [ty_un, ty_un, ih h1 h2 h h' hd.2, hd.1]
theorem Ex.as.ty {e e' : Ex} (h : e.as e') (ho : e.ok = true) (ho' : e'.ok = true) {l : List Txt} {m : List Ty} (hlm : l.length = m.length) : e.ty l m = e'.ty l m := by
 have := Ex.ty_db hlm (a := []) (b := []) (k := []) rfl rfl ho ho' h
 simpa using this
theorem Ex.as.hd {e e' : Ex} (h : e.as e') : e.hd = e'.hd := by
 have h : e.db [] = e'.db [] := h
 cases e <;> cases e' <;> simp only [Ex.db, reduceCtorEq] at h <;> first
  | rfl
  | (simp only [Ex.bin.injEq] at h; simp only [Ex.hd, h.1]; rfl)
  | (simp only [Ex.un.injEq] at h; simp only [Ex.hd, h.1]; rfl)
theorem Ex.as.symm {e e' : Ex} (h : e.as e') : e'.as e := Eq.symm h
theorem Ex.as.trans {e e' e'' : Ex} (h : e.as e') (h' : e'.as e'') : e.as e'' := Eq.trans h h'
end Go.Proofs.YtjhjhepjchdpgaaGreatDoor


/- What the statements say of closed expressions, of parts and of prints. No conditions. -/
namespace Go.Proofs.YtjhjhepjchdpgaaGreatDoor
set_option maxRecDepth 100000
set_option linter.unusedVariables false
set_option linter.unusedSimpArgs false

theorem freeOf_some {s : Txt} {e : Ex} (h : exOf s = some e) : freeOf s = some e.free := by unfold freeOf; rw [h]; rfl
end Go.Proofs.YtjhjhepjchdpgaaGreatDoor


/- What stands free is put, each name once; what is counted. No conditions. -/
namespace Go.Proofs.YtjhjhepjchdpgaaGreatDoor
set_option maxRecDepth 100000
set_option linter.unusedVariables false
set_option linter.unusedSimpArgs false

def nul : Ex := .num [48]
/-- Nought put for each of these names. -/
def Ex.puts (e : Ex) (l : List Txt) : Ex := l.foldl (fun e n => e.put n nul) e
/-- How often a name stands free. -/
def countOf (s n : Txt) : Int := match exOf s with
 | some e => if isName n = true then (((e.occ []).count n : Nat) : Int) else -1
 | none => -1
end Go.Proofs.YtjhjhepjchdpgaaGreatDoor


/- Puts of closed expressions: sizes, free names; what 'ExprAlike' answers. No conditions. -/
namespace Go.Proofs.YtjhjhepjchdpgaaGreatDoor
set_option maxRecDepth 100000
set_option linter.unusedVariables false
set_option linter.unusedSimpArgs false

/-- What 'ExprAlike' answers. -/
def alikeOf (a b : Txt) : Bool := match exOf a, exOf b with
 | some e, some f => e.alk f [] []
 | _, _ => false
theorem exOf_plain {s : Txt} {e : Ex} (h : exOf s = some e) : exOf e.plain.tree.text = some e.plain := exOf_fine (plain_fine (exOf_is h).1)
theorem text_inj {e f : Ex} (h : e.fine = true) (h' : f.fine = true) (ht : e.tree.text = f.tree.text) : e = f := by
 have h1 := exOf_fine h
 rw [ht, exOf_fine h'] at h1
 exact (Option.some.inj h1).symm
end Go.Proofs.YtjhjhepjchdpgaaGreatDoor


/- What the statements say of faults and of what is put. No conditions. -/
namespace Go.Proofs.YtjhjhepjchdpgaaGreatDoor
set_option maxRecDepth 100000
set_option linter.unusedVariables false
set_option linter.unusedSimpArgs false

end Go.Proofs.YtjhjhepjchdpgaaGreatDoor


/- What plain and alike expressions share. No conditions. -/
namespace Go.Proofs.YtjhjhepjchdpgaaGreatDoor
set_option maxRecDepth 100000
set_option linter.unusedVariables false
set_option linter.unusedSimpArgs false

theorem ex_len {s : Txt} {e : Ex} (h : exOf s = some e) : s.length ≤ 12000 := by
 obtain ⟨_, _, _, h4, h5⟩ := exOf_is h
 rw [h5, Tree.text_len]; exact h4
theorem as_exTy {a b : Txt} {e f : Ex} (h : exOf a = some e) (h' : exOf b = some f) (has : e.as f) (l m : List Txt) : exTy l m a = exTy l m b := by
 by_cases hv : isEnv l m = true
 ·rw [exTy_of hv h, exTy_of hv h']
  have hlm : l.length = (tysOf m).length := by
   unfold isEnv at hv
   simp only [Bool.and_eq_true, decide_eq_true_eq] at hv
   simp [tysOf, hv.1.1.2]
  rw [has.ty (exOf_is h).2.1 (exOf_is h').2.1 hlm]
 ·rw [exTy_no (.inl (by simpa using hv)), exTy_no (.inl (by simpa using hv))]
end Go.Proofs.YtjhjhepjchdpgaaGreatDoor


/- Types and names that do not stand free. No conditions. -/
namespace Go.Proofs.YtjhjhepjchdpgaaGreatDoor
set_option maxRecDepth 100000
set_option linter.unusedVariables false
set_option linter.unusedSimpArgs false

def z9 : Txt := [122, 57]
def pii : Txt := [40, 42, 32, 105, 32, 105, 41]
theorem type_facts {l m : List Txt} {s o : Txt} (h : exTy l m s = some o) : ∃ e, exOf s = some e ∧ freeOf s = some e.free ∧ (∀ x ∈ e.free, x ∈ l) ∧ plainOf s = some e.plain.tree.text ∧ exTy l m e.plain.tree.text = some o ∧ e.plain.tree.text.length ≤ 12000 ∧
  (typeOf o).isSome = true ∧ o.length ≤ 80 ∧ l.length ≤ 8 ∧ l.length = m.length ∧ (l.length ≠ 8 → z9 ∉ e.free → exTy (l ++ [z9]) (m ++ [pii]) s = some o) := by
 by_cases hv : isEnv l m = true
 ·cases he : exOf s with
  | none => rw [exTy_no (.inr he)] at h; cases h
  | some e =>
   rw [exTy_of hv he] at h
   have hv0 := hv
   unfold isEnv at hv
   simp only [Bool.and_eq_true, decide_eq_true_eq, List.all_eq_true] at hv
   obtain ⟨⟨⟨hl8, hlm⟩, hna⟩, hty⟩ := hv
   have hlt : l.length = (tysOf m).length := by rw [tysOf_len]; exact hlm
   obtain ⟨t, ht, rfl⟩ := Option.map_eq_some_iff.1 h
   have hsm := (env_tys hty).2.1
   unfold Ex.ty at ht
   cases hc : e.chk l (tysOf m) with
   | error x => rw [hc] at ht; cases ht
   | ok t' =>
    rw [hc] at ht; cases ht
    have hx := exOf_is he
    have hts := Ex.chk_small hx.2.1 hsm hc
    have h2 := exOf_plain he
    refine ⟨e, rfl, freeOf_some he, fun x hx => Ex.chk_occ hc x (Ex.free_mem.1 hx), plainOf_some he, ?_, ex_len h2, ?_, Ty.text_len hts, hl8, hlm, ?_⟩
    ·rw [as_exTy h2 he e.plain_as, exTy_of hv0 he]; exact h
    ·rw [typeOf_text', if_pos hts]; rfl
    ·intro h8 hz
     have hv2 : isEnv (l ++ [z9]) (m ++ [pii]) = true := by
      unfold isEnv
      simp only [Bool.and_eq_true, decide_eq_true_eq, List.all_eq_true, List.length_append, List.length_cons, List.length_nil]
      refine ⟨⟨⟨by omega, by omega⟩, fun x hx => ?_⟩, fun x hx => ?_⟩
      ·rcases List.mem_append.1 hx with hx | hx
       ·exact hna x hx
       ·rw [List.mem_singleton.1 hx]; decide
      ·rcases List.mem_append.1 hx with hx | hx
       ·exact hty x hx
       ·rw [List.mem_singleton.1 hx, show pii = (Ty.pr .i .i).tree.text from rfl, typeOf_text']; rfl
     rw [exTy_of hv2 he]
     have hta : tysOf (m ++ [pii]) = tysOf m ++ [.pr .i .i] := by
      unfold tysOf
      rw [List.map_append, List.map_cons, List.map_nil, show pii = (Ty.pr .i .i).tree.text from rfl, tyOf_text]; rfl
     rw [hta]
     have : e.chk (l ++ [z9]) (tysOf m ++ [.pr .i .i]) = e.chk l (tysOf m) := by
      refine Ex.chk_congr (by simp [hlt]) hlt fun x hx => ?_
      rw [tyLook_add hlt, if_neg]
      rintro rfl
      exact hz (Ex.free_mem.2 hx)
     unfold Ex.ty
     rw [this, hc]; rfl
 ·rw [exTy_no (.inl (by simpa using hv))] at h; cases h
end Go.Proofs.YtjhjhepjchdpgaaGreatDoor


/- The walk of the statement 'FnExprType'. No conditions. -/
namespace Go.Proofs.YtjhjhepjchdpgaaGreatDoor
set_option maxRecDepth 100000
set_option linter.unusedVariables false
set_option linter.unusedSimpArgs false

theorem law_FnExprType {I : Heap} {oa : Option Addr} {code : List UInt8} {c : Nat} (h : Bytes I oa code c) (L : Own) : Fun Tryz.prog 3 [.slice oa code.length c] I L (YES L) := by
 have hlen := h.len
 refine fun_intro (by simp) ?_
 refine Se rfl ?_
 refine Oa rfl ?_
 refine o_done ?_
 refine s_seq ?_
 refine Se rfl ?_
 refine Om rfl ?_
 refine o_len_slice rfl .free rfl ?_
 refine o_cmp rfl rfl rfl .free rfl ?_
 refine o_done ?_
 refine s_cond rfl ?_ ?_
 ·intro c0
  try simp only [nb] at c0
  refine Se rfl ?_
  refine Oa rfl ?_
  refine o_done ?_
  refine s_ret (.tmp rfl .nil) ?_
  exact ⟨I, L, .refl _, fun _ h => h, rfl, rfl⟩
 intro c0
 try simp only [nb] at c0
 refine s_skip ?_
 refine Se rfl ?_
 refine Om rfl ?_
 refine o_call rfl .free rfl (g_DrawExprType h _) ?_
 rintro _ J1 _ e1 ⟨o1, l, ca, o2, m, cb, s, rfl, k1, k2, hl16, hm16, hsl, hsm, hss, rfl⟩
 have hs : s.length ≤ maxN := by unfold maxN; omega
 refine Om rfl ?_
 iterate 3 refine o_extract rfl rfl .free rfl ?_
 iterate 3 refine Oa rfl ?_
 refine o_done ?_
 refine Se rfl ?_
 iterate 3 refine Om rfl ?_
 refine o_call rfl .free rfl (f_ExprType k1 k2 s hs _) ?_
 rintro _ J2 _ e2 ⟨rfl, rfl⟩
 have k1 := k1.mono e2
 have k2 := k2.mono e2
 refine Om rfl ?_
 refine o_extract rfl rfl .free rfl ?_
 refine o_extract rfl rfl .free rfl ?_
 refine Oa rfl ?_
 refine Oa rfl ?_
 refine o_done ?_
 refine Se rfl ?_
 iterate 3 refine Om rfl ?_
 refine o_call rfl .free rfl (g_ExprType k1 k2 s (maxN_maxL hs) _) ?_
 rintro _ J3 _ e3 ⟨rfl, rfl⟩
 have k1 := k1.mono e3
 have k2 := k2.mono e3
 have hle := (e1.trans e2).trans e3
 refine Om rfl ?_
 refine o_extract rfl rfl .free rfl ?_
 refine o_extract rfl rfl .free rfl ?_
 refine Oa rfl ?_
 refine Oa rfl ?_
 refine o_done ?_
 refine s_seq ?_
 refine Se rfl ?_
 refine Om rfl ?_
 refine Om rfl ?_
 refine o_cmpb rfl rfl rfl .free rfl ?_
 refine Om rfl ?_
 apply o_or 45 49 rfl
 ·intro g6_4 hk
  try simp only [nb] at g6_4
  refine o_move rfl (.met rfl rfl) rfl ?_
  refine o_move rfl (.met rfl rfl) rfl ?_
  refine o_cmps rfl rfl rfl (.met rfl rfl) rfl ?_
  refine o_pick_false rfl rfl .free rfl ?_
  exact o_fin 3 rfl rfl hk
 ·intro _ hk
  refine o_skips 3 rfl ?_
  refine o_pick_true rfl rfl .free rfl ?_
  exact o_fin 3 rfl rfl hk
 refine Om rfl ?_
 apply o_or 50 53 rfl
 ·intro g6_9 hk
  try simp only [nb] at g6_9
  refine o_move rfl (.met rfl rfl) rfl ?_
  refine o_not rfl (.met rfl rfl) rfl ?_
  refine o_pick_false rfl rfl .free rfl ?_
  exact o_fin 2 rfl rfl hk
 ·intro _ hk
  refine o_skips 2 rfl ?_
  refine o_pick_true rfl rfl .free rfl ?_
  exact o_fin 2 rfl rfl hk
 refine o_done ?_
 refine s_cond rfl ?_ ?_
 ·intro c1
  try simp only [nb] at c1
  refine Se rfl ?_
  refine Om rfl ?_
  refine Om rfl ?_
  refine o_cmpb rfl rfl rfl .free rfl ?_
  refine Om rfl ?_
  apply o_and 57 61 rfl
  ·intro g7_4 hk
   try simp only [nb] at g7_4
   refine o_move rfl (.met rfl rfl) rfl ?_
   refine o_move rfl (.met rfl rfl) rfl ?_
   refine o_cmps rfl rfl rfl (.met rfl rfl) rfl ?_
   refine o_pick_true rfl rfl .free rfl ?_
   exact o_fin 3 rfl rfl hk
  ·intro _ hk
   refine o_skips 3 rfl ?_
   refine o_pick_false rfl rfl .free rfl ?_
   exact o_fin 3 rfl rfl hk
  refine Oa rfl ?_
  refine o_done ?_
  refine s_ret (.tmp rfl .nil) ?_
  refine ⟨J3, L, hle, drops, ?_, rfl⟩
  simp [retOne]
 intro c1
 try simp only [nb] at c1
 obtain ⟨o, ho⟩ : ∃ o, exTy l m s = some o := Option.isSome_iff_exists.1 (by simpa using c1)
 clear c1
 obtain ⟨e, he, hf1, hfl, hpl, hpt, hpn, hto, hol, hl8, hlm, hz9⟩ := type_facts ho
 have hpN : e.plain.tree.text.length ≤ maxN := by unfold maxN; omega
 have hoN : o.length ≤ maxN := by unfold maxN; omega
 rw [ho]
 simp only [Option.getD_some, Option.isSome_some]
 refine s_skip ?_
 refine Se rfl ?_
 refine Om rfl ?_
 refine o_call rfl .free rfl (f_ExprFree s hs _ _) ?_
 rintro _ J4 _ e4 ⟨of, cf, rfl, hfS, rfl⟩
 rw [hf1] at hfS
 rw [hf1]
 simp only [Option.getD_some, Option.isSome_some] at hfS ⊢
 have hflen := hfS.len
 unfold maxN at hflen
 refine Om rfl ?_
 refine o_extract rfl rfl .free rfl ?_
 refine o_extract rfl rfl .free rfl ?_
 refine Oa rfl ?_
 refine Oa rfl ?_
 refine o_done ?_
 refine Se rfl ?_
 refine Om rfl ?_
 refine o_call rfl .free rfl (f_ExprPlain s hs _ _) ?_
 rintro _ J5 _ e5 ⟨rfl, rfl⟩
 rw [hpl]
 simp only [Option.getD_some, Option.isSome_some]
 have hfS := hfS.mono e5
 have k1 := (k1.mono e4).mono e5
 have k2 := (k2.mono e4).mono e5
 have hle := (hle.trans e4).trans e5
 refine Om rfl ?_
 refine o_extract rfl rfl .free rfl ?_
 refine o_extract rfl rfl .free rfl ?_
 refine Oa rfl ?_
 refine Oa rfl ?_
 refine o_done ?_
 refine s_seq ?_
 refine Se rfl ?_
 refine Oa rfl ?_
 refine o_done ?_
 refine s_block ?_
 refine s_while (X := Nat) (fun i => e.free.length - i) (fun i => [(3, .slice o1 l.length ca), (4, .slice o2 m.length cb), (5, .string (str s)), (6, .string (str o)), (10, .slice of e.free.length cf), (11, .bool true), (12, .string (str e.plain.tree.text)), (13, .bool true), (14, .int .i64 (i : Nat))]) (fun _ => J5) (fun _ => L) (fun i => i ≤ e.free.length) 0 (Nat.zero_le _) ⟨rfl, rfl, rfl, rfl, rfl, rfl, rfl, rfl, rfl, trivial⟩ drops ?_
 rintro i hi ih
 refine s_seq ?_
 refine Se rfl ?_
 refine Om rfl ?_
 refine Om rfl ?_
 refine o_len_slice rfl .free rfl ?_
 refine o_cmp rfl rfl rfl .free rfl ?_
 refine o_done ?_
 refine s_cond rfl ?_ ?_
 ·intro c2
  try simp only [nb] at c2
  have hi1 : i < e.free.length := by omega
  have hst := hfS.st i hi1
  have hmem : e.free.getD i [] ∈ l := hfl _ (by rw [show e.free.getD i [] = e.free[i] by simp [hi1]]; exact List.getElem_mem _)
  refine s_skip ?_
  refine s_seq ?_
  refine s_block ?_
  refine Se rfl ?_
  iterate 3 refine Om rfl ?_
  first | refine o_ixD rfl rfl _ rfl .free rfl ?_ | refine o_ixP rfl rfl _ rfl .free rfl ?_
  refine o_lI1 rfl .free rfl ?_
  refine o_call rfl .free rfl (x_hasText k1 _ _) ?_
  rintro _ _ _ _ ⟨rfl, rfl, rfl⟩
  refine o_not rfl .free rfl ?_
  refine o_done ?_
  first | refine s_fp rfl hmem ?_ | refine s_fn rfl hmem ?_ | refine s_false (by simp [look, opd, *]) ?_
  refine s_skip ?_
  refine s_inBlock ?_
  refine o_enter rfl ?_
  refine Om rfl ?_
  refine o_arith rfl rfl rfl (by omega) .free rfl ?_
  refine Oa rfl ?_
  refine o_done ?_
  exact s_env (E' := [(3, .slice o1 l.length ca), (4, .slice o2 m.length cb), (5, .string (str s)), (6, .string (str o)), (10, .slice of e.free.length cf), (11, .bool true), (12, .string (str e.plain.tree.text)), (13, .bool true), (14, .int .i64 ((i + 1 : Nat)))]) ⟨rfl, rfl, rfl, rfl, rfl, rfl, rfl, rfl, rfl, trivial⟩ (ih (i + 1) (by omega) (by omega))
 intro c2
 try simp only [nb] at c2
 refine s_exit rfl ?_
 refine Se rfl ?_
 refine o_lits0 .free rfl ?_
 intro b86
 refine Om rfl ?_
 refine o_appendB (B := some (b86, [])) (xs := []) (ys := l.map sv) (m := 0) (c := 0) (by intro kk; simp) (by rfl) rfl rfl ⟨rfl, Nat.le_refl _, rfl⟩ (fun _ h => h) (by simp) k1.reads k1.none (sv_plain l) (by decide) (by omega) (by decide) .free rfl ?_
 intro B1 c8 hB1
 refine o_lits rfl rfl (by rfl) (by rfl) (by rfl) (by decide) (by decide) (by rfl) .free rfl ?_
 intro b89
 refine o_freezeLit [z9] (by decide) (by decide) ?_
 intro J6 e6 kz
 have k1 := k1.mono e6
 have k2 := k2.mono e6
 have hfS := hfS.mono e6
 have hle := hle.trans e6
 refine o_appendB (B := B1) (xs := [] ++ l.map sv) (ys := [z9].map sv) (m := 0 + l.length) (c := c8) (by intro kk; simp) (by rfl) rfl rfl hB1 (fun _ h => h) (by simp) kz.reads kz.none (sv_plain [z9]) (by decide) (by omega) (by decide) .free rfl ?_
 intro B2 c9 hB2
 rw [show [] ++ l.map sv ++ [z9].map sv = (l ++ [z9]).map sv by simp] at hB2
 refine o_mem (L' := bufOwn 9 ((l ++ [z9]).map sv) B2 ++ L) (fun w h => by rw [show (l ++ [z9]).map sv = [] ++ l.map sv ++ [z9].map sv by simp]; exact h) ?_
 refine o_freezeStrs hB2 (by simp) (by simp; unfold maxN; omega) (by intro z hz; rcases List.mem_append.1 hz with hz | hz; exact k1.each z hz; rw [List.mem_singleton.1 hz]; decide) ?_
 intro J7 ox cx e7 hbx kx
 refine o_put (t := 90) rfl hbx ?_
 have k1 := k1.mono e7
 have k2 := k2.mono e7
 have hfS := hfS.mono e7
 have hle := hle.trans e7
 refine o_lits0 .free rfl ?_
 intro b91
 refine Om rfl ?_
 refine o_appendB (B := some (b91, [])) (xs := []) (ys := m.map sv) (m := 0) (c := 0) (by intro kk; simp) (by rfl) rfl rfl ⟨rfl, Nat.le_refl _, rfl⟩ (fun _ h => h) (by simp) k2.reads k2.none (sv_plain m) (by decide) (by omega) (by decide) .free rfl ?_
 intro B3 c10 hB3
 refine o_lits rfl rfl (by rfl) (by rfl) (by rfl) (by decide) (by decide) (by rfl) .free rfl ?_
 intro b94
 refine o_freezeLit [pii] (by decide) (by decide) ?_
 intro J8 e8 kp
 have k1 := k1.mono e8
 have k2 := k2.mono e8
 have kx := kx.mono e8
 have hfS := hfS.mono e8
 have hle := hle.trans e8
 refine o_appendB (B := B3) (xs := [] ++ m.map sv) (ys := [pii].map sv) (m := 0 + m.length) (c := c10) (by intro kk; simp) (by rfl) rfl rfl hB3 (fun _ h => h) (by simp) kp.reads kp.none (sv_plain [pii]) (by decide) (by omega) (by decide) .free rfl ?_
 intro B4 c11 hB4
 rw [show [] ++ m.map sv ++ [pii].map sv = (m ++ [pii]).map sv by simp] at hB4
 refine o_mem (L' := bufOwn 9 ((m ++ [pii]).map sv) B4 ++ L) (fun w h => by rw [show (m ++ [pii]).map sv = [] ++ m.map sv ++ [pii].map sv by simp]; exact h) ?_
 refine o_freezeStrs hB4 (by simp) (by simp; unfold maxN; omega) (by intro z hz; rcases List.mem_append.1 hz with hz | hz; exact k2.each z hz; rw [List.mem_singleton.1 hz]; decide) ?_
 intro J9 oy cy e9 hby ky
 refine o_put (t := 95) rfl hby ?_
 have k1 := k1.mono e9
 have k2 := k2.mono e9
 have kx := kx.mono e9
 have hfS := hfS.mono e9
 have hle := hle.trans e9
 refine Om rfl ?_
 refine o_call rfl .free rfl (f_ExprType kx ky s hs _) ?_
 rintro _ J10 _ e10 ⟨rfl, rfl⟩
 have k1 := k1.mono e10
 have k2 := k2.mono e10
 have hfS := hfS.mono e10
 refine Om rfl ?_
 refine o_extract rfl rfl .free rfl ?_
 refine o_extract rfl rfl .free rfl ?_
 refine Oa rfl ?_
 refine Oa rfl ?_
 refine o_done ?_
 refine Se rfl ?_
 iterate 3 refine Om rfl ?_
 refine o_call rfl .free rfl (f_ExprType k1 k2 e.plain.tree.text hpN _) ?_
 rintro _ J11 _ e11 ⟨rfl, rfl⟩
 rw [hpt]
 simp only [Option.getD_some, Option.isSome_some]
 have hfS := hfS.mono e11
 have hle := (hle.trans e10).trans e11
 refine Om rfl ?_
 refine o_extract rfl rfl .free rfl ?_
 refine o_extract rfl rfl .free rfl ?_
 refine Oa rfl ?_
 refine Oa rfl ?_
 refine o_done ?_
 refine Se rfl ?_
 refine Om rfl ?_
 refine Om rfl ?_
 apply o_and 108 111 rfl
 ·intro g17_2 hk
  try simp only [nb] at g17_2
  refine o_move rfl (.met rfl rfl) rfl ?_
  refine o_call rfl (.met rfl rfl) rfl (f_TypeValid o hoN _ _) ?_
  rintro _ J12 _ e12 ⟨rfl, rfl⟩
  refine o_mem (fun w h => Mem.le e12 h) ?_
  refine o_pick_true rfl rfl .free rfl ?_
  exact o_fin 2 rfl rfl hk
 ·intro _ hk
  refine o_skips 2 rfl ?_
  refine o_pick_false rfl rfl .free rfl ?_
  exact o_fin 2 rfl rfl hk
 refine Om rfl ?_
 apply o_and 112 128 rfl
 ·intro g17_6 hk
  try simp only [nb] at g17_6
  refine o_move rfl (.met rfl rfl) rfl ?_
  refine o_len_slice rfl (.met rfl rfl) rfl ?_
  refine o_cmp rfl rfl rfl (.met rfl rfl) rfl ?_
  refine o_move rfl (.met rfl rfl) rfl ?_
  apply o_or 116 119 rfl
  ·intro g17_10 hk
   try simp only [nb] at g17_10
   refine o_move rfl (.met rfl rfl) rfl ?_
   refine o_call rfl (.met rfl rfl) rfl (x_hasText hfS z9 _) ?_
   rintro _ _ _ _ ⟨rfl, rfl, rfl⟩
   refine o_pick_false rfl rfl (.met rfl rfl) rfl ?_
   exact o_fin 2 rfl rfl hk
  ·intro _ hk
   refine o_skips 2 rfl ?_
   refine o_pick_true rfl rfl (.met rfl rfl) rfl ?_
   exact o_fin 2 rfl rfl hk
  refine o_move rfl (.met rfl rfl) rfl ?_
  apply o_or 120 127 rfl
  ·intro g17_14 hk
   try simp only [nb] at g17_14
   refine o_move rfl (.met rfl rfl) rfl ?_
   refine o_move rfl (.met rfl rfl) rfl ?_
   apply o_and 122 126 rfl
   ·intro g17_16 hk
    try simp only [nb] at g17_16
    refine o_move rfl (.met rfl rfl) rfl ?_
    refine o_move rfl (.met rfl rfl) rfl ?_
    refine o_cmps rfl rfl rfl (.met rfl rfl) rfl ?_
    refine o_pick_true rfl rfl (.met rfl rfl) rfl ?_
    exact o_fin 3 rfl rfl hk
   ·intro _ hk
    refine o_skips 3 rfl ?_
    refine o_pick_false rfl rfl (.met rfl rfl) rfl ?_
    exact o_fin 3 rfl rfl hk
   refine o_pick_false rfl rfl (.met rfl rfl) rfl ?_
   exact o_fin 3 rfl rfl hk
  ·intro _ hk
   refine o_skips 6 rfl ?_
   refine o_pick_true rfl rfl (.met rfl rfl) rfl ?_
   exact o_fin 6 rfl rfl hk
  refine o_pick_true rfl rfl .free rfl ?_
  exact o_fin 7 rfl rfl hk
 ·intro _ hk
  refine o_skips 15 rfl ?_
  refine o_pick_false rfl rfl .free rfl ?_
  exact o_fin 15 rfl rfl hk
 refine Om rfl ?_
 apply o_and 129 140 rfl
 ·intro g17_23 hk
  try simp only [nb] at g17_23
  refine o_move rfl (.met rfl rfl) rfl ?_
  refine o_not rfl (.met rfl rfl) rfl ?_
  refine o_move rfl (.met rfl rfl) rfl ?_
  apply o_or 132 139 rfl
  ·intro g17_26 hk
   try simp only [nb] at g17_26
   refine o_move rfl (.met rfl rfl) rfl ?_
   refine o_move rfl (.met rfl rfl) rfl ?_
   apply o_and 134 138 rfl
   ·intro g17_28 hk
    try simp only [nb] at g17_28
    refine o_move rfl (.met rfl rfl) rfl ?_
    refine o_move rfl (.met rfl rfl) rfl ?_
    refine o_cmps rfl rfl rfl (.met rfl rfl) rfl ?_
    refine o_pick_true rfl rfl (.met rfl rfl) rfl ?_
    exact o_fin 3 rfl rfl hk
   ·intro _ hk
    refine o_skips 3 rfl ?_
    refine o_pick_false rfl rfl (.met rfl rfl) rfl ?_
    exact o_fin 3 rfl rfl hk
   refine o_pick_false rfl rfl (.met rfl rfl) rfl ?_
   exact o_fin 3 rfl rfl hk
  ·intro _ hk
   refine o_skips 6 rfl ?_
   refine o_pick_true rfl rfl (.met rfl rfl) rfl ?_
   exact o_fin 6 rfl rfl hk
  refine o_pick_true rfl rfl .free rfl ?_
  exact o_fin 4 rfl rfl hk
 ·intro _ hk
  refine o_skips 10 rfl ?_
  refine o_pick_false rfl rfl .free rfl ?_
  exact o_fin 10 rfl rfl hk
 refine Oa rfl ?_
 refine o_done ?_
 refine s_ret (.tmp rfl .nil) ?_
 refine ⟨J11, L, hle, drops, ?_, rfl⟩
 by_cases h8 : l.length = 8
 ·simp [retOne, hto, h8]
 ·by_cases hz : z9 ∈ e.free
  ·simp [retOne, hto, hz]
  ·have := hz9 h8 hz
   simp [retOne, hto, this]
end Go.Proofs.YtjhjhepjchdpgaaGreatDoor
