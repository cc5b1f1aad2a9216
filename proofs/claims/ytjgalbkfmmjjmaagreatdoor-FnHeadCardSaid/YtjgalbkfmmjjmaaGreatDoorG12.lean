/- Expressions with plain names are expressions. No conditions. -/
import Derived.Test.YtjgalbkfmmjjmaaGreatDoorG11
import Derived.Shelf.Strconv.Atoi
import Derived.Test.YtjgalbkfmmjjmaaGreatDoorProg
import Derived.Shelf.Strconv.Itoa3
namespace Go.Proofs.YtjgalbkfmmjjmaaGreatDoor
set_option maxRecDepth 100000
set_option linter.unusedVariables false
set_option linter.unusedSimpArgs false

theorem digit_of {d : Nat} (h : d < 10) : digit (UInt8.ofNat (48 + d)) = true := by
 have : (UInt8.ofNat (48 + d)).toNat = 48 + d := by simp [UInt8.toNat_ofNat]; omega
 simp only [digit, this, Bool.and_eq_true, decide_eq_true_eq]; omega
theorem decT_digits : ∀ n : Nat, (decT n).all digit = true := by
 intro n
 induction n using Nat.strongRecOn with
 | _ n ih =>
  by_cases h : n < 10
  ·rw [decT_small h]; simp only [List.all_cons, List.all_nil, Bool.and_true]; exact digit_of h
  ·rw [decT_big h, List.all_append, ih (n / 10) (by omega)]
   simp only [List.all_cons, List.all_nil, Bool.and_true, Bool.true_and]; exact digit_of (Nat.mod_lt n (by omega))
theorem decT_len {n : Nat} (h : n < 1000) : (decT n).length ≤ 3 := by
 by_cases h1 : n < 10
 ·rw [decT_small h1]; simp
 ·rw [decT_big h1, List.length_append]
  by_cases h2 : n / 10 < 10
  ·rw [decT_small h2]; simp
  ·rw [decT_big h2, List.length_append, decT_small (show n / 10 / 10 < 10 by omega)]; simp
theorem nm_name {c : UInt8} {n : Nat} (hc : lower c = true) (h : n < 1000) : isName (nm c n) = true := by
 have := decT_len h
 simp [nm, isName, hc, decT_digits n, this]
def namesL (l : List Txt) : Prop := ∀ s ∈ l, isName s = true
theorem namesL.add {l m : List Txt} (h : namesL l) (h' : namesL m) : namesL (l ++ m) := by
 intro s hs
 rcases List.mem_append.1 hs with hs | hs
 ·exact h s hs
 ·exact h' s hs
theorem Ex.pl_ok {av : List Txt} : ∀ {e : Ex} {f t : List Txt} {n : Nat}, e.ok = true → namesL t → f.length = t.length → n + e.nb + av.length ≤ 900 + hits 120 av n → (e.pl av f t n).1.ok = true
 | .num s, f, t, n, h, _, _, _ => h
 | .name s, f, t, n, h, ht, hl, _ => by
  simp only [Ex.pl, Ex.ok]
  cases hi : lastIdx f s with
  | none => exact h
  | some i =>
   have h1 := (lastAt_lt (show lastAt f s f.length = some i from hi)).1
   have h2 : i < t.length := by omega
   show isName (t.getD i []) = true
   rw [show t.getD i [] = t[i] by simp [h2]]
   exact ht _ (List.getElem_mem h2)
 | .bin o a b, f, t, n, h, ht, hl, hn => by
  simp only [Ex.ok, Bool.and_eq_true] at h
  simp only [Ex.nb] at hn
  have h1 := a.pl_hits av f t n
  have h2 := hits_le 120 av (a.pl av f t n).2
  simp only [Ex.pl, Ex.ok, Bool.and_eq_true]
  exact ⟨Ex.pl_ok h.1 ht hl (by omega), Ex.pl_ok h.2 ht hl (by omega)⟩
 | .ite a b c, f, t, n, h, ht, hl, hn => by
  simp only [Ex.ok, Bool.and_eq_true] at h
  simp only [Ex.nb] at hn
  have h1 := a.pl_hits av f t n
  have h2 := b.pl_hits av f t (a.pl av f t n).2
  have h3 := hits_le 120 av (a.pl av f t n).2
  have h4 := hits_le 120 av (b.pl av f t (a.pl av f t n).2).2
  simp only [Ex.pl, Ex.ok, Bool.and_eq_true]
  exact ⟨⟨Ex.pl_ok h.1.1 ht hl (by omega), Ex.pl_ok h.1.2 ht hl (by omega)⟩, Ex.pl_ok h.2 ht hl (by omega)⟩
 | .lt x a b, f, t, n, h, ht, hl, hn => by
  simp only [Ex.ok, Bool.and_eq_true] at h
  simp only [Ex.nb] at hn
  have h0 := fr_hits_succ 120 av n
  have h1 := a.pl_hits av f t (fr 120 av n + 1)
  have h2 := hits_le 120 av (fr 120 av n + 1)
  have h3 := hits_le 120 av (a.pl av f t (fr 120 av n + 1)).2
  have h4 := hits_le 120 av n
  have hz : isName (nm 120 (fr 120 av n)) = true := nm_name (by decide) (by omega)
  simp only [Ex.pl, Ex.ok, Bool.and_eq_true]
  exact ⟨⟨hz, Ex.pl_ok h.1.2 ht hl (by omega)⟩, Ex.pl_ok h.2 (ht.add fun s hs => by rw [List.mem_singleton.1 hs]; exact hz) (by simp [hl]) (by omega)⟩
 | .fn g x s u b, f, t, n, h, ht, hl, hn => by
  simp only [Ex.ok, Bool.and_eq_true, decide_eq_true_eq] at h
  obtain ⟨⟨⟨⟨⟨h1, h2⟩, h3⟩, h4⟩, h5⟩, h6⟩ := h
  simp only [Ex.nb] at hn
  have k0 := fr_hits_succ 120 av n
  have k1 := fr_hits_succ 120 av (fr 120 av n + 1)
  have k2 := hits_le 120 av (fr 120 av n + 1)
  have k3 := hits_le 120 av (fr 120 av (fr 120 av n + 1) + 1)
  have k5 := hits_le 120 av n
  have k4 := (fr_facts 120 av (fr 120 av n + 1)).2.1
  have hz1 : isName (nm 120 (fr 120 av n)) = true := nm_name (by decide) (by omega)
  have hz2 : isName (nm 120 (fr 120 av (fr 120 av n + 1))) = true := nm_name (by decide) (by omega)
  simp only [Ex.pl, Ex.ok, Bool.and_eq_true, decide_eq_true_eq]
  refine ⟨⟨⟨⟨⟨hz1, hz2⟩, fun e => ?_⟩, h4⟩, h5⟩, Ex.pl_ok h6 (ht.add fun s hs => ?_) (by simp [hl]) (by omega)⟩
  ·have := nm_inj e; omega
  ·simp only [List.mem_cons, List.not_mem_nil, or_false] at hs
   rcases hs with rfl | rfl
   ·exact hz1
   ·exact hz2
 | .un o a, f, t, n, h, ht, hl, hn => by
  simp only [Ex.pl, Ex.ok]
  exact Ex.pl_ok (e := a) h ht hl (by simpa [Ex.nb] using hn)
theorem B5.txt_len (o : B5) : o.txt.length ≤ 4 := by cases o <;> decide
theorem U2.txt_len (o : U2) : o.txt.length ≤ 3 := by cases o <;> decide
/-- An expression's text is short. -/
theorem Ex.len_size : ∀ {e : Ex}, e.ok = true → e.tree.len + 1 ≤ 8 * e.size
 | .num s, h => by
  have h : isNum s = true := h
  have : s.length ≤ 4 := by
   simp only [isNum, Bool.or_eq_true, Bool.and_eq_true, decide_eq_true_eq] at h
   rcases h with h | h
   ·rw [h]; decide
   ·have h1 := h.1.1.2
    unfold unsign at h1
    split at h1
    ·simp only [List.length_drop] at h1; omega
    ·omega
  simp only [Ex.tree, Tree.len, List.isEmpty_nil, cond_true, Ex.size]; omega
 | .name s, h => by
  have := isName_len (show isName s = true from h)
  simp only [Ex.tree, Tree.len, List.isEmpty_nil, cond_true, Ex.size]; omega
 | .bin o a b, h => by
  simp only [Ex.ok, Bool.and_eq_true] at h
  have h1 := Ex.len_size h.1; have h2 := Ex.len_size h.2; have h3 := o.txt_len
  simp only [Ex.tree, Tree.len, lenL, List.isEmpty_nil, List.isEmpty_cons, cond_true, cond_false, Ex.size]; omega
 | .ite a b c, h => by
  simp only [Ex.ok, Bool.and_eq_true] at h
  have h1 := Ex.len_size h.1.1; have h2 := Ex.len_size h.1.2; have h3 := Ex.len_size h.2
  simp only [Ex.tree, Tree.len, lenL, List.isEmpty_nil, List.isEmpty_cons, cond_true, cond_false, Ex.size, tIf, List.length_cons, List.length_nil]; omega
 | .lt x a b, h => by
  simp only [Ex.ok, Bool.and_eq_true] at h
  have h1 := Ex.len_size h.1.2; have h2 := Ex.len_size h.2; have h3 := isName_len h.1.1
  simp only [Ex.tree, Tree.len, lenL, List.isEmpty_nil, List.isEmpty_cons, cond_true, cond_false, Ex.size, tLet, List.length_cons, List.length_nil]; omega
 | .fn f x s t b, h => by
  simp only [Ex.ok, Bool.and_eq_true, decide_eq_true_eq] at h
  obtain ⟨⟨⟨⟨⟨h1, h2⟩, h3⟩, h4⟩, h5⟩, h6⟩ := h
  have k1 := Ex.len_size h6; have k2 := isName_len h1; have k3 := isName_len h2
  have k4 := s.tree_small; have k5 := t.tree_small; have k6 := s.size_pos; have k7 := t.size_pos
  simp only [Ex.tree, Tree.len, lenL, List.isEmpty_nil, List.isEmpty_cons, cond_true, cond_false, Ex.size, tFun, List.length_cons, List.length_nil]; omega
 | .un o a, h => by
  have h1 := Ex.len_size (e := a) h; have h3 := o.txt_len
  simp only [Ex.tree, Tree.len, lenL, List.isEmpty_nil, List.isEmpty_cons, cond_true, cond_false, Ex.size]; omega
/-- The plain one of an expression. -/
def Ex.plain (e : Ex) : Ex := (e.pl e.free [] [] 0).1
theorem addAll_len' (l m : List Txt) : (addAll l m).length ≤ l.length + m.length := by
 induction m generalizing l with
 | nil => exact Nat.le_refl _
 | cons s m ih =>
  have h1 : (addOnce l s).length ≤ l.length + 1 := by unfold addOnce; split <;> simp
  have h2 := ih (addOnce l s)
  simp only [addAll, List.foldl_cons, List.length_cons] at *
  omega
theorem plain_room {e : Ex} (h : e.size ≤ 120) : e.nb + e.free.length ≤ 80 := by
 have h1 := e.nb_occ []
 have h2 := addAll_len' [] (e.occ [])
 simp only [List.length_nil, Nat.zero_add] at h2
 have h3 : e.free.length ≤ (e.occ []).length := h2
 omega
theorem plain_fine {e : Ex} (h : e.fine = true) : e.plain.fine = true := by
 simp only [Ex.fine, Bool.and_eq_true, decide_eq_true_eq, Tree.fits] at h
 obtain ⟨h1, h2, h3⟩ := e.pl_size e.free [] [] 0
 have hr := plain_room h.1.2
 have hok : e.plain.ok = true := Ex.pl_ok h.1.1 (fun s hs => by cases hs) rfl (by omega)
 have hl := Ex.len_size hok
 have h4 : e.plain.size = e.size := h1
 have h5 : e.plain.tree.depth = e.tree.depth := h2
 simp only [Ex.fine, Bool.and_eq_true, decide_eq_true_eq, Tree.fits]
 exact ⟨⟨hok, by omega⟩, by omega, by omega⟩
def plainOf (s : Txt) : Option Txt := (exOf s).map fun e => e.plain.tree.text
def lookOr (l m : List Txt) (s : Txt) : Txt := match lastIdx l s with
 | some i => m.getD i []
 | none => s
section
variable {I : Heap} {A B C D L : Own} {w : World}
end
/-- What a state of many orders has. -/
structure G11 where
 b6 : Nat
 b14 : Nat
 b16 : Nat
 b20 : Nat
 B : Buf
 c : Nat
 D : Buf
 e : Nat
/-- What 'ExprPut' returns. -/
def putOf (s nm by' : Txt) : Option Txt := match exOf s, closedOf by' with
 | some e, some v => if isName nm = true ∧ (e.put nm v).fine = true then some (e.put nm v).tree.text else none
 | _, _ => none
theorem g_DrawExprHead {I : Heap} {oa : Option Addr} {l : List UInt8} {c : Nat} (h : Bytes I oa l c) (L : Own) : Fun Tryz.prog 4 [.slice oa l.length c] I L (DX L) := by
 refine fun_intro (by simp) ?_
 refine Se rfl (Oa rfl (o_done (Se rfl (Om rfl ?_))))
 refine o_call rfl .free rfl (g_l6Open h _) ?_
 rintro _ J1 _ e1 ⟨b, oa1, l1, c1, rfl, h1, hl1, rfl⟩
 refine Oa rfl (o_done (s_seq (Se rfl (Om rfl ?_))))
 refine o_call rfl .free rfl (g_l6Rd_pick h1 hl1 b _ 4 (by omega) (by decide) _) ?_
 rintro _ _ _ _ ⟨r, rfl, rfl, rfl, hr⟩
 refine o_cmp rfl rfl rfl .free rfl ?_
 refine o_done ?_
 refine s_cond rfl ?_ ?_
 ·intro c0
  try simp only [nb] at c0
  refine Se rfl (Om rfl ?_)
  refine o_call rfl .free rfl (g_l91Open h1 hl1 b _ (by omega) _) ?_
  rintro _ J2 _ e2 ⟨s, p', rfl, hs, hp1, hp2, rfl⟩
  refine Oa rfl (o_done ?_)
  refine s_ret (.tmp rfl .nil) ?_
  exact ⟨J2, L, e1.trans e2, fun _ h => h.drop, s, rfl, by omega, rfl⟩
 intro c0
 try simp only [nb] at c0
 refine s_skip (Se rfl (Om rfl ?_))
 refine o_call rfl .free rfl (g_l91Odd h1 hl1 b _ (by omega) _) ?_
 rintro _ J2 _ e2 ⟨s, p', rfl, hs, hp1, hp2, rfl⟩
 refine Oa rfl (o_done ?_)
 refine s_ret (.tmp rfl .nil) ?_
 exact ⟨J2, L, e1.trans e2, fun _ h => h.drop, s, rfl, hs, rfl⟩
def DX2 (L : Own) : Post := fun v I' L' => ∃ s t, v = .tuple #[.string (str s), .string (str t)] ∧ List.length s ≤ 400001 ∧ List.length t ≤ 400001 ∧ L = L'
def DX3 (L : Own) : Post := fun v I' L' => ∃ s t u, v = .tuple #[.string (str s), .string (str t), .string (str u)] ∧ List.length s ≤ 400001 ∧ List.length t ≤ 400001 ∧ List.length u ≤ 400001 ∧ L = L'
def Ex.one : Ex → Nat
 | .lt _ _ _ => 1
 | _ => 0
/-- How many 'let'. -/
def Ex.nl : Ex → Nat
 | .num _ => 0
 | .name _ => 0
 | .bin _ a b => a.nl + b.nl
 | .ite a b c => a.nl + b.nl + c.nl
 | .lt _ a b => 1 + a.nl + b.nl
 | .fn _ _ _ _ b => b.nl
 | .un _ a => a.nl
mutual
def Tree.nl : Tree → Nat
 | .node _ ps => (if (match ps with | [] => [] | p :: _ => p.atom) = tLet then 1 else 0) + nlL ps
def nlL : List Tree → Nat
 | [] => 0
 | t :: ts => t.nl + nlL ts
end
mutual
theorem Tree.nl_len : ∀ t : Tree, t.nl ≤ t.len
 | .node a [] => by simp [Tree.nl, nlL, tLet]
 | .node a (p :: ps) => by
  have h1 := nlL_len (p :: ps)
  simp only [Tree.nl, Tree.len, List.isEmpty_cons, cond_false]
  split <;> omega
theorem nlL_len : ∀ ts : List Tree, nlL ts ≤ lenL ts
 | [] => Nat.le_refl _
 | t :: ts => by have h1 := t.nl_len; have h2 := nlL_len ts; simp only [nlL, lenL]; omega
end
/-- The names of the 'let' at the beginning, and what they stand ahead of. -/
def Ex.path : Ex → List Txt
 | .lt x _ b => x :: b.path
 | _ => []
def Ex.last : Ex → Ex
 | .lt _ _ b => b.last
 | e => e
def netsOf (s : Txt) : Int := match normOf true s with
 | some e => (e.nl : Nat)
 | none => -1
def pathOf (s : Txt) : Option (List Txt × Txt) := (normOf true s).map fun e => (e.path, e.last.tree.text)
theorem netsOf_some {s : Txt} {e : Ex} (h : normOf true s = some e) : netsOf s = (e.nl : Nat) := by unfold netsOf; rw [h]
/-- What makes an expression simple gives: the expression, the bindings ahead of it, the next number, how many names were given. -/
structure MK where
 e : Ex
 ns : List (Txt × Ex)
 n : Nat
 g : Nat
def MK.pt (tk : List Txt) (p : MK) : MK := if p.e.bare = true then p else ⟨.name (nm 121 (fr 121 tk p.n)), p.ns ++ [(nm 121 (fr 121 tk p.n), p.e)], fr 121 tk p.n + 1, p.g + 1⟩
def MK.all (p : MK) : Ex := lets p.ns p.e
def Ex.mk (tk : List Txt) : Ex → Nat → MK
 | .num s, n => ⟨.num s, [], n, 0⟩
 | .name s, n => ⟨.name s, [], n, 0⟩
 | .lt x a b, n => let p := a.mk tk n; let q := b.mk tk p.n; ⟨q.e, p.ns ++ (x, p.e) :: q.ns, q.n, p.g + q.g⟩
 | .fn f x s t b, n => let p := b.mk tk n; ⟨.fn f x s t p.all, [], p.n, p.g⟩
 | .ite a b c, n => let p := (a.mk tk n).pt tk; let q := b.mk tk p.n; let r := c.mk tk q.n; ⟨.ite p.e q.all r.all, p.ns, r.n, p.g + q.g + r.g⟩
 | .bin o a b, n => let p := (a.mk tk n).pt tk; let q := (b.mk tk p.n).pt tk; ⟨.bin o p.e q.e, p.ns ++ q.ns, q.n, p.g + q.g⟩
 | .un o a, n => let p := (a.mk tk n).pt tk; ⟨.un o p.e, p.ns, p.n, p.g⟩
def nsz : List (Txt × Ex) → Nat
 | [] => 0
 | p :: ps => 2 + p.2.size + nsz ps
theorem MK.pt_len (tk : List Txt) (p : MK) {s : Nat} (h : p.ns.length + 1 ≤ s) : (p.pt tk).ns.length ≤ s := by
 unfold MK.pt
 split
 ·omega
 ·simp only [List.length_append, List.length_cons, List.length_nil]; omega
/-- The bindings' names are names, their expressions are expressions. -/
def okNs (l : List (Txt × Ex)) : Prop := ∀ p ∈ l, isName p.1 = true ∧ p.2.ok = true
theorem okNs.add {l m : List (Txt × Ex)} (h : okNs l) (h' : okNs m) : okNs (l ++ m) := by
 intro p hp
 rcases List.mem_append.1 hp with hp | hp
 ·exact h p hp
 ·exact h' p hp
/-- The names that stand as expressions. -/
def Ex.lv : Ex → List Txt
 | .num _ => []
 | .name s => [s]
 | .bin _ a b => a.lv ++ b.lv
 | .ite a b c => a.lv ++ b.lv ++ c.lv
 | .lt _ a b => a.lv ++ b.lv
 | .fn _ _ _ _ b => b.lv
 | .un _ a => a.lv
/-- No bound name begins with a y. -/
def Ex.bx : Ex → Bool
 | .num _ => true
 | .name _ => true
 | .bin _ a b => a.bx && b.bx
 | .ite a b c => a.bx && b.bx && c.bx
 | .lt x a b => decide (x.head? ≠ some 121) && a.bx && b.bx
 | .fn f x _ _ b => decide (f.head? ≠ some 121) && decide (x.head? ≠ some 121) && b.bx
 | .un _ a => a.bx
/-- The atoms of the plain one. -/
def Ex.tk (e : Ex) : List Txt := addAll [] e.plain.tree.atomL
def Ex.made (e : Ex) : MK := e.plain.mk e.tk 0
def Ex.normal (e : Ex) : Ex := e.made.all
def nfOf (s : Txt) : Option Txt := (exOf s).bind fun e => if e.normal.fine = true then some e.normal.tree.text else none
theorem nfOf_some {s : Txt} {e : Ex} (h : exOf s = some e) : nfOf s = if e.normal.fine = true then some e.normal.tree.text else none := by unfold nfOf; rw [h]; rfl
theorem lastAt_app {l r : List Txt} {y : Txt} : ∀ {n : Nat}, n ≤ l.length → lastAt (l ++ r) y n = lastAt l y n
 | 0, _ => rfl
 | n + 1, h => by
  simp only [lastAt]
  rw [show (l ++ r).getD n [] = l.getD n [] by simp [List.getElem?_append_left (show n < l.length by omega)], lastAt_app (by omega)]
theorem lastIdx_add (l : List Txt) (x y : Txt) : lastIdx (l ++ [x]) y = if x = y then some l.length else lastIdx l y := by
 unfold lastIdx
 rw [show (l ++ [x]).length = l.length + 1 by simp]
 simp only [lastAt]
 rw [show (l ++ [x]).getD l.length [] = x by simp, lastAt_app (Nat.le_refl _)]
theorem lastIdx_app (l : List Txt) (y : Txt) : ∀ (a : List Txt), lastIdx (l ++ a) y = match lastIdx a y with | some i => some (l.length + i) | none => lastIdx l y := by
 intro a
 induction a generalizing l with
 | nil => rw [List.append_nil]; rfl
 | cons x a ih =>
  have h1 := ih (l ++ [x])
  have h2 := ih [x]
  rw [List.append_assoc] at h1
  simp only [List.cons_append, List.nil_append] at h1 h2
  rw [h1, h2, lastIdx_add]
  have h3 := lastIdx_add [] x y
  simp only [List.nil_append, List.length_nil] at h3
  rw [h3]
  cases lastIdx a y with
  | some i => simp only [List.length_append, List.length_cons, List.length_nil]; congr 1; omega
  | none =>
   simp only
   by_cases e : x = y
   ·rw [if_pos e, if_pos e]; simp
   ·rw [if_neg e, if_neg e]; rfl
theorem lastIdx_lt {l : List Txt} {y : Txt} {i : Nat} (h : lastIdx l y = some i) : i < l.length ∧ l.getD i [] = y := lastAt_lt h
theorem lastIdx_none {l : List Txt} {y : Txt} : lastIdx l y = none ↔ y ∉ l := by
 induction l with
 | nil => simp [lastIdx, lastAt]
 | cons x l ih =>
  have h := lastIdx_app [x] y l
  simp only [List.cons_append, List.nil_append] at h
  rw [h]
  have h3 := lastIdx_add [] x y
  simp only [List.nil_append, List.length_nil] at h3
  rw [h3]
  cases hl : lastIdx l y with
  | some i =>
   have := lastAt_mem hl
   simp [this]
  | none =>
   rw [hl] at ih
   have h4 : y ∉ l := ih.1 rfl
   by_cases e : x = y
   ·simp [e]
   ·rw [if_neg e]
    simp only [List.mem_cons, not_or]
    exact ⟨fun _ => ⟨fun e' => e e'.symm, h4⟩, fun _ => rfl⟩
theorem lastIdx_nodup {l : List Txt} (h : l.Nodup) {i : Nat} (hi : i < l.length) : lastIdx l (l.getD i []) = some i := by
 cases hx : lastIdx l (l.getD i []) with
 | none =>
  rw [lastIdx_none] at hx
  exact absurd (by rw [show l.getD i [] = l[i] by simp [hi]]; exact List.getElem_mem hi) hx
 | some j =>
  obtain ⟨h1, h2⟩ := lastIdx_lt hx
  rw [show l.getD j [] = l[j] by simp [h1], show l.getD i [] = l[i] by simp [hi]] at h2
  rw [(List.getElem_inj h).1 h2]
/-- A bound name, told by its place. -/
def bnd (i : Nat) : Txt := 0 :: List.replicate i 0
theorem bnd_inj {i j : Nat} (h : bnd i = bnd j) : i = j := by
 have := congrArg List.length h
 simpa [bnd] using this
theorem bnd_name (i : Nat) : isName (bnd i) = false := by simp [bnd, isName, lower]
theorem bnd_ne {s : Txt} (h : isName s = true) (i : Nat) : bnd i ≠ s := fun e => by rw [← e, bnd_name] at h; cases h
def Ex.db : Ex → List Txt → Ex
 | .num s, _ => .num s
 | .name s, a => .name (match lastIdx a s with | some i => bnd i | none => s)
 | .bin o a b, l => .bin o (a.db l) (b.db l)
 | .ite a b c, l => .ite (a.db l) (b.db l) (c.db l)
 | .lt x a b, l => .lt [] (a.db l) (b.db (l ++ [x]))
 | .fn g x s t b, l => .fn [] [] s t (b.db (l ++ [g, x]))
 | .un o a, l => .un o (a.db l)
/-- Alike, as the program asks it. -/
def Ex.alk : Ex → Ex → List Txt → List Txt → Bool
 | .num s, .num t, _, _ => decide (s = t)
 | .name s, .name t, a, b => decide (lastIdx a s = lastIdx b t) && ((lastIdx a s).isSome || decide (s = t))
 | .bin o p q, .bin o' p' q', a, b => decide (o.txt = o'.txt) && p.alk p' a b && q.alk q' a b
 | .ite p q r, .ite p' q' r', a, b => p.alk p' a b && q.alk q' a b && r.alk r' a b
 | .lt x p q, .lt x' p' q', a, b => p.alk p' a b && q.alk q' (a ++ [x]) (b ++ [x'])
 | .fn g x s t q, .fn g' x' s' t' q', a, b => decide (s = s') && decide (t = t') && q.alk q' (a ++ [g, x]) (b ++ [g', x'])
 | .un o p, .un o' p', a, b => decide (o.txt = o'.txt) && p.alk p' a b
 | _, _, _, _ => false
theorem B5.txt_iff {o o' : B5} : o.txt = o'.txt ↔ o = o' := ⟨B5.txt_inj, fun e => by rw [e]⟩
theorem U2.txt_iff {o o' : U2} : o.txt = o'.txt ↔ o = o' := ⟨U2.txt_inj, fun e => by rw [e]⟩
theorem Ex.alk_db : ∀ {e e' : Ex} {a b : List Txt}, e.ok = true → e'.ok = true → (e.alk e' a b = true ↔ e.db a = e'.db b) := by
 intro e
 induction e with
 | num s => intro e' a b h h'; cases e' <;> simp [Ex.alk, Ex.db]
 | name s =>
  intro e' a b h h'
  cases e' <;> simp only [Ex.alk, Ex.db, reduceCtorEq, Bool.false_eq_true]
  rename_i t
  simp only [Ex.ok] at h h'
  simp only [Bool.and_eq_true, Bool.or_eq_true, decide_eq_true_eq, Ex.name.injEq]
  cases hs : lastIdx a s with
  | none => cases ht : lastIdx b t with
   | none => simp
   | some j => simp only [reduceCtorEq, false_and, false_iff]; exact fun e => bnd_ne h j e.symm
  | some i => cases ht : lastIdx b t with
   | none => simp only [reduceCtorEq, false_and, false_iff]; exact fun e => bnd_ne h' i e
   | some j => simp only [Option.some.injEq, Option.isSome_some, true_or, and_true]; exact ⟨fun e => by rw [e], bnd_inj⟩
 | bin o p q ih1 ih2 =>
  intro e' a b h h'
  cases e' <;> simp only [Ex.alk, Ex.db, reduceCtorEq, Bool.false_eq_true]
  simp only [Ex.ok, Bool.and_eq_true] at h h'
  simp only [Bool.and_eq_true, decide_eq_true_eq, Ex.bin.injEq, B5.txt_iff, ih1 h.1 h'.1, ih2 h.2 h'.2, and_assoc]
 | ite p q r ih1 ih2 ih3 =>
  intro e' a b h h'
  cases e' <;> simp only [Ex.alk, Ex.db, reduceCtorEq, Bool.false_eq_true]
  simp only [Ex.ok, Bool.and_eq_true] at h h'
  simp only [Bool.and_eq_true, Ex.ite.injEq, ih1 h.1.1 h'.1.1, ih2 h.1.2 h'.1.2, ih3 h.2 h'.2, and_assoc]
 | lt x p q ih1 ih2 =>
  intro e' a b h h'
  cases e' <;> simp only [Ex.alk, Ex.db, reduceCtorEq, Bool.false_eq_true]
  simp only [Ex.ok, Bool.and_eq_true] at h h'
  simp only [Bool.and_eq_true, Ex.lt.injEq, ih1 h.1.2 h'.1.2, ih2 h.2 h'.2, true_and]
 | fn g x s t q ih =>
  intro e' a b h h'
  cases e' <;> simp only [Ex.alk, Ex.db, reduceCtorEq, Bool.false_eq_true]
  simp only [Ex.ok, Bool.and_eq_true] at h h'
  simp only [Bool.and_eq_true, decide_eq_true_eq, Ex.fn.injEq, ih h.2 h'.2, true_and, and_assoc]
 | un o p ih =>
  intro e' a b h h'
  cases e' <;> simp only [Ex.alk, Ex.db, reduceCtorEq, Bool.false_eq_true]
  simp only [Ex.ok] at h h'
  simp only [Bool.and_eq_true, decide_eq_true_eq, Ex.un.injEq, U2.txt_iff, ih h h']
/-- Names that plain names are given: new, each once. -/
def freshT (av t : List Txt) (n : Nat) : Prop := t.Nodup ∧ ∀ x ∈ t, x ∉ av ∧ ∃ k, k < n ∧ x = nm 120 k
theorem freshT.up {av t : List Txt} {n m : Nat} (h : freshT av t n) (hm : n ≤ m) : freshT av t m := ⟨h.1, fun x hx => by obtain ⟨h1, k, h2, h3⟩ := h.2 x hx; exact ⟨h1, k, by omega, h3⟩⟩
theorem freshT.add {av t : List Txt} {n k : Nat} (h : freshT av t n) (hk : n ≤ k) (ha : nm 120 k ∉ av) : freshT av (t ++ [nm 120 k]) (k + 1) := by
 refine ⟨?_, fun x hx => ?_⟩
 ·rw [List.nodup_append]
  refine ⟨h.1, by simp, ?_⟩
  intro x hx y hy e
  simp only [List.mem_singleton] at hy
  subst hy; subst e
  obtain ⟨_, j, hj, e⟩ := h.2 _ hx
  have := nm_inj e
  omega
 ·rcases List.mem_append.1 hx with hx | hx
  ·obtain ⟨h1, j, h2, h3⟩ := h.2 x hx; exact ⟨h1, j, by omega, h3⟩
  ·simp only [List.mem_singleton] at hx; subst hx; exact ⟨ha, k, by omega, rfl⟩
/-- An expression is alike to its plain one. -/
theorem Ex.db_pl {av : List Txt} : ∀ {e : Ex} {f t : List Txt} {n : Nat}, f.length = t.length → freshT av t n → (∀ x ∈ e.occ f, x ∈ av) → (e.pl av f t n).1.db t = e.db f := by
 intro e
 induction e with
 | num s => intro f t n _ _ _; rfl
 | name s =>
  intro f t n hft hfr ho
  simp only [Ex.pl, Ex.db]
  cases hs : lastIdx f s with
  | none =>
   have h1 : s ∉ f := lastIdx_none.1 hs
   have h2 := ho s (by simp [Ex.occ, h1])
   have h3 : lastIdx t s = none := lastIdx_none.2 fun hm => (hfr.2 s hm).1 h2
   simp only [h3]
  | some i =>
   have h1 := (lastIdx_lt hs).1
   simp only [lastIdx_nodup hfr.1 (show i < t.length by omega)]
 | bin o p q ih1 ih2 =>
  intro f t n hft hfr ho
  simp only [Ex.occ, List.mem_append] at ho
  simp only [Ex.pl, Ex.db, ih1 hft hfr fun x hx => ho x (.inl hx), ih2 hft (hfr.up (p.pl_hits av f t n).1) fun x hx => ho x (.inr hx)]
 | ite p q r ih1 ih2 ih3 =>
  intro f t n hft hfr ho
  simp only [Ex.occ, List.mem_append] at ho
  have h1 := (p.pl_hits av f t n).1
  have h2 := (q.pl_hits av f t (p.pl av f t n).2).1
  simp only [Ex.pl, Ex.db, ih1 hft hfr fun x hx => ho x (.inl (.inl hx)), ih2 hft (hfr.up h1) fun x hx => ho x (.inl (.inr hx)), ih3 hft (hfr.up (Nat.le_trans h1 h2)) fun x hx => ho x (.inr hx)]
 | lt x p q ih1 ih2 =>
  intro f t n hft hfr ho
  simp only [Ex.occ, List.mem_append] at ho
  obtain ⟨f1, f2, f3⟩ := fr_facts 120 av n
  have h1 := (p.pl_hits av f t (fr 120 av n + 1)).1
  simp only [Ex.pl, Ex.db, ih1 hft (hfr.up (show n ≤ fr 120 av n + 1 by omega)) fun x hx => ho x (.inl hx),
   ih2 (f := f ++ [x]) (t := t ++ [nm 120 (fr 120 av n)]) (by simp [hft]) ((hfr.add f2 f1).up h1) fun x hx => ho x (.inr hx)]
 | fn g x s u q ih =>
  intro f t n hft hfr ho
  simp only [Ex.occ] at ho
  obtain ⟨f1, f2, f3⟩ := fr_facts 120 av n
  obtain ⟨g1, g2, g3⟩ := fr_facts 120 av (fr 120 av n + 1)
  have hh := ((hfr.add f2 f1).add g2 g1)
  rw [List.append_assoc] at hh
  simp only [List.cons_append, List.nil_append] at hh
  simp only [Ex.pl, Ex.db, ih (f := f ++ [g, x]) (t := t ++ [nm 120 (fr 120 av n), nm 120 (fr 120 av (fr 120 av n + 1))]) (by simp [hft]) hh ho]
 | un o p ih =>
  intro f t n hft hfr ho
  simp only [Ex.occ] at ho
  simp only [Ex.pl, Ex.db, ih hft hfr ho]
theorem plain_db (e : Ex) : e.plain.db [] = e.db [] := Ex.db_pl rfl ⟨by simp, by simp⟩ fun x hx => Ex.free_mem.2 hx
/-- The free names of what is told by places. -/
def Ex.fv : Ex → List Txt
 | .num _ => []
 | .name s => if isName s = true then [s] else []
 | .bin _ a b => a.fv ++ b.fv
 | .ite a b c => a.fv ++ b.fv ++ c.fv
 | .lt _ a b => a.fv ++ b.fv
 | .fn _ _ _ _ b => b.fv
 | .un _ a => a.fv
theorem Ex.occ_db : ∀ {e : Ex} {a : List Txt}, e.ok = true → e.occ a = (e.db a).fv := by
 intro e
 induction e with
 | num s => intro a _; rfl
 | name s =>
  intro a h
  simp only [Ex.ok] at h
  simp only [Ex.occ, Ex.db, Ex.fv]
  cases hs : lastIdx a s with
  | none => simp only [if_pos h]; rw [if_neg (lastIdx_none.1 hs)]
  | some i => simp only [bnd_name, Bool.false_eq_true, if_false]; rw [if_pos (lastAt_mem hs)]
 | bin o p q ih1 ih2 => intro a h; simp only [Ex.ok, Bool.and_eq_true] at h; simp only [Ex.occ, Ex.db, Ex.fv, ih1 h.1, ih2 h.2]
 | ite p q r ih1 ih2 ih3 => intro a h; simp only [Ex.ok, Bool.and_eq_true] at h; simp only [Ex.occ, Ex.db, Ex.fv, ih1 h.1.1, ih2 h.1.2, ih3 h.2]
 | lt x p q ih1 ih2 => intro a h; simp only [Ex.ok, Bool.and_eq_true] at h; simp only [Ex.occ, Ex.db, Ex.fv, ih1 h.1.2, ih2 h.2]
 | fn g x s u q ih => intro a h; simp only [Ex.ok, Bool.and_eq_true] at h; simp only [Ex.occ, Ex.db, Ex.fv, ih h.2]
 | un o p ih => intro a h; simp only [Ex.ok] at h; simp only [Ex.occ, Ex.db, Ex.fv, ih h]
/-- Two expressions that are alike. -/
def Ex.as (e e' : Ex) : Prop := e.db [] = e'.db []
theorem Ex.as.free {e e' : Ex} (h : e.as e') (ho : e.ok = true) (ho' : e'.ok = true) : e.free = e'.free ∧ e.occ [] = e'.occ [] := by
 have h1 : e.occ [] = e'.occ [] := by rw [Ex.occ_db ho, Ex.occ_db ho', show e.db [] = e'.db [] from h]
 exact ⟨by unfold Ex.free; rw [h1], h1⟩
theorem Ex.plain_as (e : Ex) : e.plain.as e := plain_db e
/-- Sizes. -/
theorem Ex.db_size : ∀ (e : Ex) (a : List Txt), (e.db a).size = e.size ∧ (e.db a).tree.depth = e.tree.depth := by
 intro e
 induction e with
 | num s => intro a; exact ⟨rfl, rfl⟩
 | name s => intro a; exact ⟨rfl, rfl⟩
 | bin o p q ih1 ih2 => intro a; obtain ⟨h1, h2⟩ := ih1 a; obtain ⟨h3, h4⟩ := ih2 a; simp only [Ex.db, Ex.size, Ex.tree, Tree.depth, depthL, List.isEmpty_cons, cond_false, h1, h2, h3, h4, and_self]
 | ite p q r ih1 ih2 ih3 => intro a; obtain ⟨h1, h2⟩ := ih1 a; obtain ⟨h3, h4⟩ := ih2 a; obtain ⟨h5, h6⟩ := ih3 a; simp only [Ex.db, Ex.size, Ex.tree, Tree.depth, depthL, List.isEmpty_cons, cond_false, h1, h2, h3, h4, h5, h6, and_self]
 | lt x p q ih1 ih2 => intro a; obtain ⟨h1, h2⟩ := ih1 a; obtain ⟨h3, h4⟩ := ih2 (a ++ [x]); simp only [Ex.db, Ex.size, Ex.tree, Tree.depth, depthL, List.isEmpty_cons, List.isEmpty_nil, cond_true, cond_false, h1, h2, h3, h4, and_self]
 | fn g x s u q ih => intro a; obtain ⟨h1, h2⟩ := ih (a ++ [g, x]); simp only [Ex.db, Ex.size, Ex.tree, Tree.depth, depthL, List.isEmpty_cons, List.isEmpty_nil, cond_true, cond_false, h1, h2, and_self]
 | un o p ih => intro a; obtain ⟨h1, h2⟩ := ih a; simp only [Ex.db, Ex.size, Ex.tree, Tree.depth, depthL, List.isEmpty_cons, cond_false, h1, h2, and_self]
theorem Ex.as.size {e e' : Ex} (h : e.as e') : e.size = e'.size ∧ e.tree.depth = e'.tree.depth := by
 have h1 := e.db_size []
 have h2 := e'.db_size []
 rw [show e.db [] = e'.db [] from h] at h1
 exact ⟨h1.1.symm.trans h2.1, h1.2.symm.trans h2.2⟩
/-- Closed expressions look the same behind any names. -/
theorem Ex.db_in : ∀ {v : Ex} {a b c : List Txt}, a.length = b.length → v.occ c = [] → v.db (a ++ c) = v.db (b ++ c) := by
 intro v
 induction v with
 | num s => intro a b c _ _; rfl
 | name s =>
  intro a b c hl h
  simp only [Ex.occ] at h
  have hc : s ∈ c := by
   by_cases hm : s ∈ c
   ·exact hm
   ·rw [if_neg hm] at h; cases h
  simp only [Ex.db, lastIdx_app]
  cases hs : lastIdx c s with
  | none => exact absurd hc (lastIdx_none.1 hs)
  | some i => simp only [hl]
 | bin o p q ih1 ih2 => intro a b c hl h; simp only [Ex.occ, List.append_eq_nil_iff] at h; simp only [Ex.db, ih1 hl h.1, ih2 hl h.2]
 | ite p q r ih1 ih2 ih3 => intro a b c hl h; simp only [Ex.occ, List.append_eq_nil_iff] at h; simp only [Ex.db, ih1 hl h.1.1, ih2 hl h.1.2, ih3 hl h.2]
 | lt x p q ih1 ih2 => intro a b c hl h; simp only [Ex.occ, List.append_eq_nil_iff] at h; simp only [Ex.db, List.append_assoc, ih1 hl h.1, ih2 hl h.2]
 | fn g x s u q ih => intro a b c hl h; simp only [Ex.occ] at h; simp only [Ex.db, List.append_assoc, ih hl h]
 | un o p ih => intro a b c hl h; simp only [Ex.occ] at h; simp only [Ex.db, ih hl h]
theorem Ex.db_cl {v : Ex} (h : v.occ [] = []) {a b : List Txt} (hl : a.length = b.length) : v.db a = v.db b := by
 have := Ex.db_in (v := v) (c := []) hl h
 simpa using this
/-- Something put for a name, unless it is bound around. -/
def Ex.putIf (e : Ex) (n : Txt) (v : Ex) (a : List Txt) : Ex := if n ∈ a then e else e.put n v
theorem putIf_in {e : Ex} {n : Txt} {v : Ex} {a : List Txt} (h : n ∈ a) : e.putIf n v a = e := if_pos h
theorem putIf_out {e : Ex} {n : Txt} {v : Ex} {a : List Txt} (h : n ∉ a) : e.putIf n v a = e.put n v := if_neg h
theorem putIf_bin (o : B5) (p q : Ex) (n : Txt) (v : Ex) (a : List Txt) : (Ex.bin o p q).putIf n v a = .bin o (p.putIf n v a) (q.putIf n v a) := by unfold Ex.putIf; split <;> rfl
theorem putIf_ite (p q r : Ex) (n : Txt) (v : Ex) (a : List Txt) : (Ex.ite p q r).putIf n v a = .ite (p.putIf n v a) (q.putIf n v a) (r.putIf n v a) := by unfold Ex.putIf; split <;> rfl
theorem putIf_un (o : U2) (p : Ex) (n : Txt) (v : Ex) (a : List Txt) : (Ex.un o p).putIf n v a = .un o (p.putIf n v a) := by unfold Ex.putIf; split <;> rfl
theorem putIf_lt (x : Txt) (p q : Ex) (n : Txt) (v : Ex) (a : List Txt) : (Ex.lt x p q).putIf n v a = .lt x (p.putIf n v a) (q.putIf n v (a ++ [x])) := by
 unfold Ex.putIf
 simp only [List.mem_append, List.mem_singleton, Ex.put]
 by_cases h : n ∈ a
 ·simp [h]
 ·by_cases h2 : x = n
  ·subst h2; simp [h]
  ·have h3 : ¬ n = x := fun e => h2 e.symm
   simp [h, h2, h3]
theorem putIf_fn (g x : Txt) (s u : Ty) (q : Ex) (n : Txt) (v : Ex) (a : List Txt) : (Ex.fn g x s u q).putIf n v a = .fn g x s u (q.putIf n v (a ++ [g, x])) := by
 unfold Ex.putIf
 simp only [List.mem_append, List.mem_cons, List.not_mem_nil, or_false, Ex.put]
 by_cases h : n ∈ a
 ·simp [h]
 ·by_cases h2 : g = n ∨ x = n
  ·have : n = g ∨ n = x := h2.imp Eq.symm Eq.symm
   simp [h, h2, this]
  ·have : ¬ (n = g ∨ n = x) := fun e => h2 (e.imp Eq.symm Eq.symm)
   simp [h, h2, this]
theorem Ex.put_db {n : Txt} {v : Ex} (hv : v.occ [] = []) : ∀ {e e' : Ex} {a b : List Txt}, a.length = b.length → e.ok = true → e'.ok = true → e.db a = e'.db b → (e.putIf n v a).db a = (e'.putIf n v b).db b := by
 intro e
 induction e with
 | num s => intro e' a b hl h h' hd; cases e' <;> simp only [Ex.db, reduceCtorEq] at hd; cases hd; unfold Ex.putIf; split <;> split <;> rfl
 | name s =>
  intro e' a b hl h h' hd
  cases e' <;> simp only [Ex.db, reduceCtorEq] at hd
  rename_i s'
  simp only [Ex.ok] at h h'
  simp only [Ex.name.injEq] at hd
  cases hs : lastIdx a s with
  | none => cases ht : lastIdx b s' with
   | none =>
    rw [hs, ht] at hd; simp only at hd; subst hd
    have h1 := lastIdx_none.1 hs
    have h2 := lastIdx_none.1 ht
    by_cases e : s = n
    ·subst e
     rw [putIf_out h1, putIf_out h2]
     simp only [Ex.put, if_true]
     exact Ex.db_cl hv hl
    ·have h3 : ∀ c, (Ex.name s).putIf n v c = .name s := fun c => by unfold Ex.putIf; split <;> simp [Ex.put, e]
     rw [h3, h3]; simp only [Ex.db, hs, ht]
   | some j => rw [hs, ht] at hd; exact absurd hd.symm (bnd_ne h j)
  | some i => cases ht : lastIdx b s' with
   | none => rw [hs, ht] at hd; exact absurd hd (bnd_ne h' i)
   | some j =>
    rw [hs, ht] at hd
    have h3 : ∀ {c : List Txt} {z : Txt}, z ∈ c → (Ex.name z).putIf n v c = .name z := fun {c z} hz => by
     by_cases e : z = n
     ·subst e; exact putIf_in hz
     ·unfold Ex.putIf; split <;> simp [Ex.put, e]
    rw [h3 (lastAt_mem hs), h3 (lastAt_mem ht)]
    simp only [Ex.db, hs, ht, bnd_inj hd]
 | bin o p q ih1 ih2 =>
  intro e' a b hl h h' hd
  cases e' <;> simp only [Ex.db, reduceCtorEq] at hd
  simp only [Ex.ok, Bool.and_eq_true] at h h'
  simp only [Ex.bin.injEq] at hd
  simp only [putIf_bin, Ex.db, ih1 hl h.1 h'.1 hd.2.1, ih2 hl h.2 h'.2 hd.2.2, hd.1]
 | ite p q r ih1 ih2 ih3 =>
  intro e' a b hl h h' hd
  cases e' <;> simp only [Ex.db, reduceCtorEq] at hd
  simp only [Ex.ok, Bool.and_eq_true] at h h'
  simp only [Ex.ite.injEq] at hd
  simp only [putIf_ite, Ex.db, ih1 hl h.1.1 h'.1.1 hd.1, ih2 hl h.1.2 h'.1.2 hd.2.1, ih3 hl h.2 h'.2 hd.2.2]
 | lt x p q ih1 ih2 =>
  intro e' a b hl h h' hd
  cases e' <;> simp only [Ex.db, reduceCtorEq] at hd
  rename_i x' p' q'
  simp only [Ex.ok, Bool.and_eq_true] at h h'
  simp only [Ex.lt.injEq] at hd
  simp only [putIf_lt, Ex.db, ih1 hl h.1.2 h'.1.2 hd.2.1, ih2 (a := a ++ [x]) (b := b ++ [x']) (by simp [hl]) h.2 h'.2 hd.2.2]
 | fn g x s u q ih =>
  intro e' a b hl h h' hd
  cases e' <;> simp only [Ex.db, reduceCtorEq] at hd
  rename_i g' x' s' u' q'
  simp only [Ex.ok, Bool.and_eq_true] at h h'
  simp only [Ex.fn.injEq] at hd
  simp only [putIf_fn, Ex.db, ih (a := a ++ [g, x]) (b := b ++ [g', x']) (by simp [hl]) h.2 h'.2 hd.2.2.2.2, hd.2.2.1, hd.2.2.2.1]
 | un o p ih =>
  intro e' a b hl h h' hd
  cases e' <;> simp only [Ex.db, reduceCtorEq] at hd
  simp only [Ex.ok] at h h'
  simp only [Ex.un.injEq] at hd
  simp only [putIf_un, Ex.db, ih hl h h' hd.2, hd.1]
theorem Ex.as.put {e e' : Ex} (h : e.as e') (ho : e.ok = true) (ho' : e'.ok = true) {n : Txt} {v : Ex} (hv : v.occ [] = []) : (e.put n v).as (e'.put n v) := by
 have := Ex.put_db (n := n) hv (a := []) (b := []) rfl ho ho' h
 rwa [putIf_out (by simp), putIf_out (by simp)] at this
/- Types of alike expressions. -/
theorem ty_bin (o : B5) (a b : Ex) (l : List Txt) (m : List Ty) : (Ex.bin o a b).ty l m = (a.ty l m).bind fun s => (b.ty l m).bind fun t => o.ty s t := by
 unfold Ex.ty; simp only [Ex.chk]
 cases a.chk l m with
 | error x => rfl
 | ok s => cases b.chk l m with
  | error x => rfl
  | ok t => simp only [Option.bind_some]; cases o.ty s t <;> rfl
theorem ty_ite (a b c : Ex) (l : List Txt) (m : List Ty) : (Ex.ite a b c).ty l m = (a.ty l m).bind fun s => (b.ty l m).bind fun t => (c.ty l m).bind fun u => if s = .i ∧ t = u then some t else none := by
 unfold Ex.ty; simp only [Ex.chk]
 cases a.chk l m with
 | error x => rfl
 | ok s => cases b.chk l m with
  | error x => rfl
  | ok t => cases c.chk l m with
   | error x => rfl
   | ok u =>
    simp only [Option.bind_some]
    by_cases h : s = .i ∧ t = u
    ·rw [if_pos h, if_pos h]
    ·rw [if_neg h, if_neg h]
theorem ty_lt (x : Txt) (a b : Ex) (l : List Txt) (m : List Ty) : (Ex.lt x a b).ty l m = (a.ty l m).bind fun s => b.ty (l ++ [x]) (m ++ [s]) := by
 unfold Ex.ty; simp only [Ex.chk]
 cases a.chk l m <;> rfl
theorem ty_fn (f x : Txt) (s t : Ty) (b : Ex) (l : List Txt) (m : List Ty) : (Ex.fn f x s t b).ty l m = if (Ty.fn s t).size ≤ 16 then (b.ty (l ++ [f, x]) (m ++ [.fn s t, s])).bind fun u => if u = t then some (.fn s t) else none else none := by
 unfold Ex.ty; simp only [Ex.chk]
 by_cases h : (Ty.fn s t).size ≤ 16
 ·rw [if_pos h, if_pos h]
  cases b.chk (l ++ [f, x]) (m ++ [.fn s t, s]) with
  | error x => rfl
  | ok u =>
   simp only [Option.bind_some]
   by_cases h : u = t
   ·rw [if_pos h, if_pos h]
   ·rw [if_neg h, if_neg h]
 ·rw [if_neg h, if_neg h]
theorem ty_un (o : U2) (a : Ex) (l : List Txt) (m : List Ty) : (Ex.un o a).ty l m = (a.ty l m).bind fun s => o.ty s := by
 unfold Ex.ty; simp only [Ex.chk]
 cases a.chk l m with
 | error x => rfl
 | ok s => simp only [Option.bind_some]; cases o.ty s <;> rfl
theorem ty_name (s : Txt) (l : List Txt) (m : List Ty) : (Ex.name s).ty l m = tyLook l m s := by
 unfold Ex.ty; simp only [Ex.chk]
 cases tyLook l m s <;> rfl
theorem tyLook_app {l a : List Txt} {m k : List Ty} (h : l.length = m.length) (s : Txt) : tyLook (l ++ a) (m ++ k) s = match lastIdx a s with | some i => k[i]? | none => tyLook l m s := by
 unfold tyLook
 rw [lastIdx_app]
 cases hs : lastIdx a s with
 | some i => simp only [Option.bind_some, h]; rw [List.getElem?_append_right (by omega)]; congr 1; omega
 | none =>
  simp only
  cases hi : lastIdx l s with
  | none => rfl
  | some i =>
   have := (lastIdx_lt hi).1
   simp only [Option.bind_some]; rw [List.getElem?_append_left (by omega)]
theorem Ex.ty_db {l : List Txt} {m : List Ty} (hlm : l.length = m.length) : ∀ {e e' : Ex} {a b : List Txt} {k : List Ty}, a.length = k.length → b.length = k.length → e.ok = true → e'.ok = true → e.db a = e'.db b → e.ty (l ++ a) (m ++ k) = e'.ty (l ++ b) (m ++ k) := by
 intro e
 induction e with
 | num s => intro e' a b k h1 h2 h h' hd; cases e' <;> simp only [Ex.db, reduceCtorEq] at hd; rfl
 | name s =>
  intro e' a b k h1 h2 h h' hd
  cases e' <;> simp only [Ex.db, reduceCtorEq] at hd
  rename_i s'
  simp only [Ex.ok] at h h'
  simp only [Ex.name.injEq] at hd
  rw [ty_name, ty_name, tyLook_app hlm, tyLook_app hlm]
  cases hs : lastIdx a s with
  | none => cases ht : lastIdx b s' with
   | none => rw [hs, ht] at hd; simp only at hd; subst hd; rfl
   | some j => rw [hs, ht] at hd; exact absurd hd.symm (bnd_ne h j)
  | some i => cases ht : lastIdx b s' with
   | none => rw [hs, ht] at hd; exact absurd hd (bnd_ne h' i)
   | some j => rw [hs, ht] at hd; rw [bnd_inj hd]
 | bin o p q ih1 ih2 =>
  intro e' a b k h1 h2 h h' hd
  cases e' <;> simp only [Ex.db, reduceCtorEq] at hd
  simp only [Ex.ok, Bool.and_eq_true] at h h'
  simp only [Ex.bin.injEq] at hd
  rw [ty_bin, ty_bin, ih1 h1 h2 h.1 h'.1 hd.2.1, ih2 h1 h2 h.2 h'.2 hd.2.2, hd.1]
 | ite p q r ih1 ih2 ih3 =>
  intro e' a b k h1 h2 h h' hd
  cases e' <;> simp only [Ex.db, reduceCtorEq] at hd
  simp only [Ex.ok, Bool.and_eq_true] at h h'
  simp only [Ex.ite.injEq] at hd
  rw [ty_ite, ty_ite, ih1 h1 h2 h.1.1 h'.1.1 hd.1, ih2 h1 h2 h.1.2 h'.1.2 hd.2.1, ih3 h1 h2 h.2 h'.2 hd.2.2]
 | lt x p q ih1 ih2 =>
  intro e' a b k h1 h2 h h' hd
  cases e' <;> simp only [Ex.db, reduceCtorEq] at hd
  rename_i x' p' q'
  simp only [Ex.ok, Bool.and_eq_true] at h h'
  simp only [Ex.lt.injEq] at hd
  rw [ty_lt, ty_lt, ih1 h1 h2 h.1.2 h'.1.2 hd.2.1]
  congr 1; funext s
  have := ih2 (a := a ++ [x]) (b := b ++ [x']) (k := k ++ [s]) (by simp [h1]) (by simp [h2]) h.2 h'.2 hd.2.2
  simpa only [List.append_assoc] using this
 | fn g x s u q ih =>
  intro e' a b k h1 h2 h h' hd
  cases e' <;> simp only [Ex.db, reduceCtorEq] at hd
  rename_i g' x' s' u' q'
  simp only [Ex.ok, Bool.and_eq_true] at h h'
  simp only [Ex.fn.injEq] at hd
  obtain ⟨-, -, rfl, rfl, hd⟩ := hd
  have := ih (a := a ++ [g, x]) (b := b ++ [g', x']) (k := k ++ [.fn s u, s]) (by simp [h1]) (by simp [h2]) h.2 h'.2 hd
  simp only [← List.append_assoc] at this
  rw [ty_fn, ty_fn, this]
 | un o p ih =>
  intro e' a b k h1 h2 h h' hd
  cases e' <;> simp only [Ex.db, reduceCtorEq] at hd
  simp only [Ex.ok] at h h'
  simp only [Ex.un.injEq] at hd
  rw [ty_un, ty_un, ih h1 h2 h h' hd.2, hd.1]
theorem Ex.as.ty {e e' : Ex} (h : e.as e') (ho : e.ok = true) (ho' : e'.ok = true) {l : List Txt} {m : List Ty} (hlm : l.length = m.length) : e.ty l m = e'.ty l m := by
 have := Ex.ty_db hlm (a := []) (b := []) (k := []) rfl rfl ho ho' h
 simpa using this
theorem Ex.as.hd {e e' : Ex} (h : e.as e') : e.hd = e'.hd := by
 have h : e.db [] = e'.db [] := h
 cases e <;> cases e' <;> simp only [Ex.db, reduceCtorEq] at h <;> first
  | rfl
  | (simp only [Ex.bin.injEq] at h; simp only [Ex.hd, h.1]; rfl)
  | (simp only [Ex.un.injEq] at h; simp only [Ex.hd, h.1]; rfl)
theorem Ex.as.symm {e e' : Ex} (h : e.as e') : e'.as e := Eq.symm h
theorem Ex.as.trans {e e' e'' : Ex} (h : e.as e') (h' : e'.as e'') : e.as e'' := Eq.trans h h'
theorem kidsOf_some {s : Txt} {e : Ex} (h : exOf s = some e) : kidsOf s = some (e.sub.map fun a => a.tree.text) := by unfold kidsOf; rw [h]; rfl
theorem kidsOf_none {s : Txt} (h : exOf s = none) : kidsOf s = none := by unfold kidsOf; rw [h]; rfl
theorem freeOf_some {s : Txt} {e : Ex} (h : exOf s = some e) : freeOf s = some e.free := by unfold freeOf; rw [h]; rfl
theorem headOf_some {s : Txt} {e : Ex} (h : exOf s = some e) : headOf s = e.hd := by unfold headOf; rw [h]
def nul : Ex := .num [48]
/-- Nought put for each of these names. -/
def Ex.puts (e : Ex) (l : List Txt) : Ex := l.foldl (fun e n => e.put n nul) e
/-- How often a name stands free. -/
def countOf (s n : Txt) : Int := match exOf s with
 | some e => if isName n = true then (((e.occ []).count n : Nat) : Int) else -1
 | none => -1
/-- What 'ExprAlike' answers. -/
def alikeOf (a b : Txt) : Bool := match exOf a, exOf b with
 | some e, some f => e.alk f [] []
 | _, _ => false
theorem alikeOf_some {a b : Txt} {e f : Ex} (h : exOf a = some e) (h' : exOf b = some f) : alikeOf a b = e.alk f [] [] := by unfold alikeOf; rw [h, h']
theorem alikeOf_as {a b : Txt} {e f : Ex} (h : exOf a = some e) (h' : exOf b = some f) : alikeOf a b = true ↔ e.as f := by
 rw [alikeOf_some h h']
 exact Ex.alk_db (exOf_is h).2.1 (exOf_is h').2.1
theorem exOf_plain {s : Txt} {e : Ex} (h : exOf s = some e) : exOf e.plain.tree.text = some e.plain := exOf_fine (plain_fine (exOf_is h).1)
theorem Ex.hd_bare {e : Ex} (h : e.bare = false) : e.hd ≠ [110, 97, 109, 101] ∧ e.hd ≠ [110, 117, 109, 98, 101, 114] ∧ e.hd ≠ [] := by
 cases e with
 | num s => cases h
 | name s => cases h
 | bin o a b => rw [show (Ex.bin o a b).hd = o.txt from rfl]; clear h; cases o <;> decide
 | un o a => rw [show (Ex.un o a).hd = o.txt from rfl]; clear h; cases o <;> decide
 | ite a b c => exact ⟨(by decide : tIf ≠ _), (by decide : tIf ≠ _), (by decide : tIf ≠ _)⟩
 | lt x a b => exact ⟨(by decide : tLet ≠ _), (by decide : tLet ≠ _), (by decide : tLet ≠ _)⟩
 | fn f x s t b => exact ⟨(by decide : tFun ≠ _), (by decide : tFun ≠ _), (by decide : tFun ≠ _)⟩
theorem Ex.pl_bare {av : List Txt} (e : Ex) (f t : List Txt) (n : Nat) : (e.pl av f t n).1.bare = e.bare := by cases e <;> rfl
theorem Ex.pl_norm {av : List Txt} : ∀ (e : Ex) (f t : List Txt) (n : Nat) (b : Bool), (e.pl av f t n).1.norm b = e.norm b
 | .num s, f, t, n, b => rfl
 | .name s, f, t, n, b => rfl
 | .bin o p q, f, t, n, b => by simp only [Ex.pl, Ex.norm, Ex.pl_bare]
 | .ite p q r, f, t, n, b => by simp only [Ex.pl, Ex.norm, Ex.pl_bare, Ex.pl_norm q, Ex.pl_norm r]
 | .lt x p q, f, t, n, b => by simp only [Ex.pl, Ex.norm, Ex.pl_norm p, Ex.pl_norm q]
 | .fn g x s u q, f, t, n, b => by simp only [Ex.pl, Ex.norm, Ex.pl_norm q]
 | .un o p, f, t, n, b => by simp only [Ex.pl, Ex.norm, Ex.pl_bare]
theorem Ex.pl_nl {av : List Txt} : ∀ (e : Ex) (f t : List Txt) (n : Nat), (e.pl av f t n).1.nl = e.nl
 | .num s, f, t, n => rfl
 | .name s, f, t, n => rfl
 | .bin o p q, f, t, n => by simp only [Ex.pl, Ex.nl, Ex.pl_nl p, Ex.pl_nl q]
 | .ite p q r, f, t, n => by simp only [Ex.pl, Ex.nl, Ex.pl_nl p, Ex.pl_nl q, Ex.pl_nl r]
 | .lt x p q, f, t, n => by simp only [Ex.pl, Ex.nl, Ex.pl_nl p, Ex.pl_nl q]
 | .fn g x s u q, f, t, n => by simp only [Ex.pl, Ex.nl, Ex.pl_nl q]
 | .un o p, f, t, n => by simp only [Ex.pl, Ex.nl, Ex.pl_nl p]
theorem mk_bare {tk : List Txt} {e : Ex} (h : e.bare = true) (n : Nat) : e.mk tk n = ⟨e, [], n, 0⟩ ∧ (e.mk tk n).pt tk = ⟨e, [], n, 0⟩ := by
 cases e with
 | num s => exact ⟨rfl, rfl⟩
 | name s => exact ⟨rfl, rfl⟩
 | bin o a b => cases h
 | ite a b c => cases h
 | lt x a b => cases h
 | fn f x s t b => cases h
 | un o a => cases h
theorem mk_norm (tk : List Txt) : ∀ (e : Ex), (e.norm false = true → ∀ n, e.mk tk n = ⟨e, [], n, 0⟩) ∧ (e.norm true = true → ∀ n, (e.mk tk n).all = e ∧ (e.mk tk n).n = n ∧ (e.mk tk n).g = 0)
 | .num s => ⟨fun _ _ => rfl, fun _ _ => ⟨rfl, rfl, rfl⟩⟩
 | .name s => ⟨fun _ _ => rfl, fun _ _ => ⟨rfl, rfl, rfl⟩⟩
 | .bin o a b => by
  have key : (a.bare && b.bare) = true → ∀ n, (Ex.bin o a b).mk tk n = ⟨.bin o a b, [], n, 0⟩ := fun h n => by
   simp only [Bool.and_eq_true] at h
   simp only [Ex.mk, (mk_bare h.1 n).2, (mk_bare h.2 n).2, List.append_nil]
  exact ⟨key, fun h n => by rw [key h n]; exact ⟨rfl, rfl, rfl⟩⟩
 | .ite a b c => by
  have key : (a.bare && b.norm true && c.norm true) = true → ∀ n, (Ex.ite a b c).mk tk n = ⟨.ite a b c, [], n, 0⟩ := fun h n => by
   simp only [Bool.and_eq_true] at h
   obtain ⟨q1, q2, q3⟩ := (mk_norm tk b).2 h.1.2 n
   obtain ⟨r1, r2, r3⟩ := (mk_norm tk c).2 h.2 n
   simp only [Ex.mk, (mk_bare h.1.1 n).2, q1, q2, q3, r1, r2, r3]
  exact ⟨key, fun h n => by rw [key h n]; exact ⟨rfl, rfl, rfl⟩⟩
 | .lt x a b => by
  refine ⟨fun h => by simp [Ex.norm] at h, fun h n => ?_⟩
  simp only [Ex.norm, Bool.true_and, Bool.and_eq_true] at h
  obtain ⟨q1, q2, q3⟩ := (mk_norm tk b).2 h.2 n
  have hp := (mk_norm tk a).1 h.1 n
  refine ⟨?_, by simp only [Ex.mk, hp, q2], by simp only [Ex.mk, hp, q3]⟩
  simp only [Ex.mk, hp, MK.all, List.nil_append, lets]
  unfold MK.all at q1
  rw [q1]
 | .fn f x s t b => by
  have key : b.norm true = true → ∀ n, (Ex.fn f x s t b).mk tk n = ⟨.fn f x s t b, [], n, 0⟩ := fun h n => by
   obtain ⟨q1, q2, q3⟩ := (mk_norm tk b).2 h n
   simp only [Ex.mk, q1, q2, q3]
  exact ⟨key, fun h n => by rw [key h n]; exact ⟨rfl, rfl, rfl⟩⟩
 | .un o a => by
  have key : a.bare = true → ∀ n, (Ex.un o a).mk tk n = ⟨.un o a, [], n, 0⟩ := fun h n => by
   simp only [Ex.mk, (mk_bare h n).2]
  exact ⟨key, fun h n => by rw [key h n]; exact ⟨rfl, rfl, rfl⟩⟩
theorem normal_norm {e : Ex} (h : e.norm true = true) : e.normal = e.plain := ((mk_norm e.tk e.plain).2 (by unfold Ex.plain; rw [Ex.pl_norm]; exact h) 0).1
/-- A normal expression's normal one is its plain one. -/
theorem nf_norm {s : Txt} {e : Ex} (h : exOf s = some e) (hn : e.norm true = true) : nfOf s = some e.plain.tree.text ∧ exOf e.plain.tree.text = some e.plain ∧ netsOf e.plain.tree.text = netsOf s ∧ alikeOf e.plain.tree.text s = true := by
 have hf := plain_fine (exOf_is h).1
 have hp := exOf_plain h
 have hpn : e.plain.norm true = true := by unfold Ex.plain; rw [Ex.pl_norm]; exact hn
 have h1 : normOf true s = some e := by unfold normOf; rw [h]; simp [hn]
 have h2 : normOf true e.plain.tree.text = some e.plain := by unfold normOf; rw [hp]; simp [hpn]
 refine ⟨by rw [nfOf_some h, normal_norm hn, if_pos hf], hp, ?_, (alikeOf_as hp h).2 e.plain_as⟩
 rw [netsOf_some h1, netsOf_some h2]
 unfold Ex.plain
 rw [Ex.pl_nl]
/-- A name or a numeral. -/
def bareT (s : Txt) : Bool := isNum s || isName s
theorem bare_plain {e : Ex} (h : e.bare = true) : e.plain = e := by
 cases e with
 | num s => rfl
 | name s => unfold Ex.plain; simp only [Ex.pl]; rfl
 | bin o a b => cases h
 | ite a b c => cases h
 | lt x a b => cases h
 | fn f x s t b => cases h
 | un o a => cases h
theorem bare_norm {e : Ex} (h : e.bare = true) (b : Bool) : e.norm b = true := by
 cases e with
 | num s => rfl
 | name s => rfl
 | bin o a b => cases h
 | ite a b c => cases h
 | lt x a b => cases h
 | fn f x s t b => cases h
 | un o a => cases h
theorem bare_fine {e : Ex} (h : e.ok = true) (hb : e.bare = true) : e.fine = true := by
 cases e with
 | num s =>
  have := isNum_len (show _ = true from h)
  simp only [Ex.fine, Tree.fits, Bool.and_eq_true, decide_eq_true_eq]
  exact ⟨⟨h, by simp [Ex.size]⟩, by simp [Ex.tree, Tree.depth, depthL], by simp [Ex.tree, Tree.len]; omega⟩
 | name s =>
  have := isName_len (show _ = true from h)
  simp only [Ex.fine, Tree.fits, Bool.and_eq_true, decide_eq_true_eq]
  exact ⟨⟨h, by simp [Ex.size]⟩, by simp [Ex.tree, Tree.depth, depthL], by simp [Ex.tree, Tree.len]; omega⟩
 | bin o a b => cases hb
 | ite a b c => cases hb
 | lt x a b => cases hb
 | fn f x s t b => cases hb
 | un o a => cases hb
theorem bareT_is {s : Txt} (h : bareT s = true) : ∃ e, exOf s = some e ∧ e.bare = true ∧ nfOf s = some s := by
 unfold bareT at h
 rw [Bool.or_eq_true] at h
 obtain ⟨e, he, hb, ho⟩ : ∃ e : Ex, e.tree.text = s ∧ e.bare = true ∧ e.ok = true := by
  rcases h with h | h
  ·exact ⟨.num s, rfl, rfl, h⟩
  ·exact ⟨.name s, rfl, rfl, h⟩
 have hx : exOf s = some e := by rw [← he, exOf_text ho, bare_fine ho hb]; rfl
 refine ⟨e, hx, hb, ?_⟩
 rw [(nf_norm hx (bare_norm hb true)).1, bare_plain hb, he]
open Go.Shelf
def lays172_ren : Go.Shelf.Ren := ⟨fun | 172 => 42 | 244 => 67 | 245 => 68 | 247 => 89 | 279 => 90 | 280 => 91 | 281 => 92 | 282 => 93 | 287 => 99 | 316 => 100 | 171 => 102 | 205 => 101 | 321 => 104 | 322 => 105 | 243 => 106 | 246 => 107 | 283 => 108 | 284 => 109 | 285 => 110 | 286 => 111 | 129 => 113 | 317 => 112 | 318 => 114 | 319 => 115 | 320 => 116 | 337 => 117 | 338 => 118 | n => n, fun | 9 => 9 | 3 => 3 | 75 => 70 | 76 => 71 | 4 => 4 | 5 => 5 | 167 => 103 | 37 => 22 | 0 => 0 | 85 => 104 | 2 => 2 | 168 => 106 | 53 => 114 | 175 => 115 | 46 => 117 | 210 => 119 | 127 => 90 | 145 => 125 | 143 => 123 | 21 => 21 | 171 => 127 | 173 => 130 | 212 => 133 | 51 => 134 | 20 => 20 | 213 => 135 | 232 => 139 | 233 => 140 | 80 => 42 | n => n, fun | 15 => 0 | 16 => 1 | 17 => 2 | 18 => 3 | 19 => 4 | n => n⟩
theorem lays172 : Go.Proofs.Lays.n172 Tryz.prog lays172_ren := {
 mixed := by kernel_rfl
 f129 := Tryz.func113.trans (congrArg some (by kernel_rfl))
 f171 := Tryz.func102.trans (congrArg some (by kernel_rfl))
 f172 := Tryz.func42.trans (congrArg some (by kernel_rfl))
 f205 := Tryz.func101.trans (congrArg some (by kernel_rfl))
 f243 := Tryz.func106.trans (congrArg some (by kernel_rfl))
 f244 := Tryz.func67.trans (congrArg some (by kernel_rfl))
 f245 := Tryz.func68.trans (congrArg some (by kernel_rfl))
 f246 := Tryz.func107.trans (congrArg some (by kernel_rfl))
 f247 := Tryz.func89.trans (congrArg some (by kernel_rfl))
 f279 := Tryz.func90.trans (congrArg some (by kernel_rfl))
 f280 := Tryz.func91.trans (congrArg some (by kernel_rfl))
 f281 := Tryz.func92.trans (congrArg some (by kernel_rfl))
 f282 := Tryz.func93.trans (congrArg some (by kernel_rfl))
 f283 := Tryz.func108.trans (congrArg some (by kernel_rfl))
 f284 := Tryz.func109.trans (congrArg some (by kernel_rfl))
 f285 := Tryz.func110.trans (congrArg some (by kernel_rfl))
 f286 := Tryz.func111.trans (congrArg some (by kernel_rfl))
 f287 := Tryz.func99.trans (congrArg some (by kernel_rfl))
 f316 := Tryz.func100.trans (congrArg some (by kernel_rfl))
 f317 := Tryz.func112.trans (congrArg some (by kernel_rfl))
 f318 := Tryz.func114.trans (congrArg some (by kernel_rfl))
 f319 := Tryz.func115.trans (congrArg some (by kernel_rfl))
 f320 := Tryz.func116.trans (congrArg some (by kernel_rfl))
 f321 := Tryz.func104.trans (congrArg some (by kernel_rfl))
 f322 := Tryz.func105.trans (congrArg some (by kernel_rfl))
 f337 := Tryz.func117.trans (congrArg some (by kernel_rfl))
 f338 := Tryz.func118.trans (congrArg some (by kernel_rfl))
 t0 := Tryz.underlying0
 a0 := Tryz.isAgg0
 z0 := Tryz.sizeOf0
 v0 := Tryz.zeroValue0
 t2 := Tryz.underlying2
 a2 := Tryz.isAgg2
 z2 := Tryz.sizeOf2
 v2 := Tryz.zeroValue2
 t3 := Tryz.underlying3
 a3 := Tryz.isAgg3
 z3 := Tryz.sizeOf3
 v3 := Tryz.zeroValue3
 t4 := Tryz.underlying4
 a4 := Tryz.isAgg4
 z4 := Tryz.sizeOf4
 v4 := Tryz.zeroValue4
 t5 := Tryz.underlying5
 a5 := Tryz.isAgg5
 z5 := Tryz.sizeOf5
 v5 := Tryz.zeroValue5
 t9 := Tryz.underlying9
 a9 := Tryz.isAgg9
 z9 := Tryz.sizeOf9
 v9 := Tryz.zeroValue9
 t20 := Tryz.underlying20
 a20 := Tryz.isAgg20
 z20 := Tryz.sizeOf20
 v20 := Tryz.zeroValue20
 t21 := Tryz.underlying21
 a21 := Tryz.isAgg21
 z21 := Tryz.sizeOf21
 v21 := Tryz.zeroValue21
 t37 := Tryz.underlying22
 a37 := Tryz.isAgg22
 z37 := Tryz.sizeOf22
 v37 := Tryz.zeroValue22
 t46 := Tryz.underlying117
 a46 := Tryz.isAgg117
 z46 := Tryz.sizeOf117
 v46 := Tryz.zeroValue117
 t51 := Tryz.underlying134
 a51 := Tryz.isAgg134
 z51 := Tryz.sizeOf134
 v51 := Tryz.zeroValue134
 t53 := Tryz.underlying114
 a53 := Tryz.isAgg114
 z53 := Tryz.sizeOf114
 v53 := Tryz.zeroValue114
 t75 := Tryz.underlying70
 a75 := Tryz.isAgg70
 z75 := Tryz.sizeOf70
 v75 := Tryz.zeroValue70
 t76 := Tryz.underlying71
 a76 := Tryz.isAgg71
 z76 := Tryz.sizeOf71
 v76 := Tryz.zeroValue71
 t85 := Tryz.underlying104
 a85 := Tryz.isAgg104
 z85 := Tryz.sizeOf104
 v85 := Tryz.zeroValue104
 t127 := Tryz.underlying90
 a127 := Tryz.isAgg90
 z127 := Tryz.sizeOf90
 v127 := Tryz.zeroValue90
 t143 := Tryz.underlying123
 a143 := Tryz.isAgg123
 z143 := Tryz.sizeOf123
 v143 := Tryz.zeroValue123
 t145 := Tryz.underlying125
 a145 := Tryz.isAgg125
 z145 := Tryz.sizeOf125
 v145 := Tryz.zeroValue125
 t167 := Tryz.underlying103
 a167 := Tryz.isAgg103
 z167 := Tryz.sizeOf103
 v167 := Tryz.zeroValue103
 t168 := Tryz.underlying106
 a168 := Tryz.isAgg106
 z168 := Tryz.sizeOf106
 v168 := Tryz.zeroValue106
 t171 := Tryz.underlying127
 a171 := Tryz.isAgg127
 z171 := Tryz.sizeOf127
 v171 := Tryz.zeroValue127
 t173 := Tryz.underlying130
 a173 := Tryz.isAgg130
 z173 := Tryz.sizeOf130
 v173 := Tryz.zeroValue130
 t175 := Tryz.underlying115
 a175 := Tryz.isAgg115
 z175 := Tryz.sizeOf115
 v175 := Tryz.zeroValue115
 t210 := Tryz.underlying119
 a210 := Tryz.isAgg119
 z210 := Tryz.sizeOf119
 v210 := Tryz.zeroValue119
 t212 := Tryz.underlying133
 a212 := Tryz.isAgg133
 z212 := Tryz.sizeOf133
 v212 := Tryz.zeroValue133
 t213 := Tryz.underlying135
 a213 := Tryz.isAgg135
 z213 := Tryz.sizeOf135
 t232 := Tryz.underlying139
 a232 := Tryz.isAgg139
 z232 := Tryz.sizeOf139
 v232 := Tryz.zeroValue139
 t233 := Tryz.underlying140
 a233 := Tryz.isAgg140
 z233 := Tryz.sizeOf140
 v233 := Tryz.zeroValue140
 g15 := by kernel_rfl
 g16 := by kernel_rfl
 g17 := by kernel_rfl
 g18 := by kernel_rfl
 g19 := by kernel_rfl }
open Go.Shelf
def laysM171_ren : Go.Shelf.Ren := ⟨fun | 171 => 102 | 243 => 106 | 246 => 107 | 283 => 108 | 284 => 109 | 285 => 110 | 286 => 111 | 129 => 113 | 317 => 112 | 318 => 114 | 319 => 115 | 320 => 116 | 337 => 117 | 338 => 118 | n => n, fun | 3 => 3 | 9 => 9 | 2 => 2 | 4 => 4 | 171 => 127 | 0 => 0 | 53 => 114 | 37 => 22 | 5 => 5 | 173 => 130 | 212 => 133 | 51 => 134 | 20 => 20 | 213 => 135 | 46 => 117 | 232 => 139 | 233 => 140 | n => n, fun | 17 => 2 | 18 => 3 | 19 => 4 | n => n⟩
open Go.Shelf
def lays171_ren : Go.Shelf.Ren := ⟨fun | 171 => 102 | 243 => 106 | 246 => 107 | 283 => 108 | 284 => 109 | 285 => 110 | 286 => 111 | 129 => 113 | 317 => 112 | 318 => 114 | 319 => 115 | 320 => 116 | 337 => 117 | 338 => 118 | n => n, fun | 3 => 3 | 9 => 9 | 2 => 2 | 4 => 4 | 171 => 127 | 0 => 0 | 53 => 114 | 37 => 22 | 5 => 5 | 173 => 130 | 212 => 133 | 51 => 134 | 20 => 20 | 213 => 135 | 46 => 117 | 232 => 139 | 233 => 140 | n => n, fun | 17 => 2 | 18 => 3 | 19 => 4 | n => n⟩
/-- The library's table of powers of ten stands as the program's text lays it. -/
def Tab (I : Heap) : Prop := ∀ L w, Mem I L w → Lib.TabIs Tryz.prog w "internal/strconv.uint64pow10" .u64 Lib.pow10Tab
theorem Tab.mono {I I' : Heap} (h : Tab I) (hle : HLe I I') : Tab I' := fun L w hm => h L w (hm.le hle)
/-- A number in decimals. -/
def intT (n : Int) : Txt := if n < 0 then 45 :: decT n.natAbs else decT n.toNat
/-- The number of the same rest from -500 on. -/
def shortN (n : Int) : Int := (n + 500) % 1000 - 500
def B5.calc (o : B5) (x y : Int) : Int := match o with
 | .add => x + y
 | .sub => x - y
 | _ => x * y
def B5.nums : B5 → Bool
 | .call => false
 | .pair => false
 | _ => true
def reck (o : B5) (a b : Txt) : Txt := intT (shortN (o.calc (numVal a) (numVal b)))
/-- The step of an expression whose evaluated parts are values. -/
def Ex.turn : Ex → Option Ex
 | .bin .call (.fn f x s t b) v => some ((b.put f (.fn f x s t b)).put x v)
 | .bin o (.num a) (.num b) => if o.nums = true then some (.num (reck o a b)) else none
 | .ite (.num a) b c => some (if a = [48] then b else c)
 | .lt x a b => some (b.put x a)
 | .un .fst (.bin .pair a b) => some a
 | .un .snd (.bin .pair a b) => some b
 | _ => none
def Ex.step : Ex → Option Ex
 | .bin o a b => if a.value = false then a.step.map fun c => .bin o c b else if b.value = false then b.step.map fun c => .bin o a c else (Ex.bin o a b).turn
 | .ite a b c => if a.value = false then a.step.map fun d => .ite d b c else (Ex.ite a b c).turn
 | .lt x a b => if a.value = false then a.step.map fun d => .lt x d b else (Ex.lt x a b).turn
 | .un o a => if a.value = false then a.step.map fun d => .un o d else (Ex.un o a).turn
 | _ => none
def U2.pick (o : U2) (p q : Ex) : Ex := match o with
 | .fst => p
 | .snd => q
/-- One step of a closed expression that is no value, if what it leads to fits. -/
def Ex.go (e : Ex) : Option Ex := if e.value = true then none else e.step.bind fun e' => if e'.fine = true then some e' else none
def stepOf (s : Txt) : Option Txt := (closedOf s).bind fun e => e.go.map fun e' => e'.tree.text
def stuckOf (s : Txt) : Bool := match closedOf s with
 | some e => !e.value && e.step.isNone
 | none => false
/-- Steps one behind another: what is reached, and how many there were. -/
def Ex.goes (e : Ex) : Nat → Ex × Nat
 | 0 => (e, 0)
 | n + 1 => match e.go with
  | some e' => ((e'.goes n).1, (e'.goes n).2 + 1)
  | none => (e, 0)
theorem Mem.frozenAt {I : Heap} {L : Own} {b k m : Nat} {o : Obj} {w : World} (h : Mem I ((b, o) :: L) w) : Mem I L (w.freeze ⟨b, k, none⟩ m) := by
 obtain ⟨h1, h2, h3⟩ := h
 have hb := h2 (b, o) (.head _)
 have hn : b ∉ L.map (·.1) ∧ (L.map (·.1)).Nodup := List.nodup_cons.1 h3
 unfold World.freeze
 split
 ·exact ⟨h1, fun p hp => h2 p (.tail _ hp), hn.2⟩
 ·refine ⟨⟨fun c u hc => ?_, h1.2⟩, fun p hp => ⟨?_, (h2 p (.tail _ hp)).2⟩, hn.2⟩
  ·have hne : b ≠ c := fun e => by subst e; rw [hb.2] at hc; cases hc
   simp only [Array.getElem?_modify, if_neg hne]
   exact h1.1 c u hc
  ·have hne : b ≠ p.1 := fun e => hn.1 (e ▸ List.mem_map.2 ⟨p, hp, rfl⟩)
   simp only [Array.getElem?_modify, if_neg hne]
   exact (h2 p (.tail _ hp)).1
theorem decFrom_all : ∀ (l : Txt) (a : Nat), l.all digit = true → Lib.decFrom a l = some (l.foldl (fun n b => 10 * n + (b.toNat - 48)) a)
 | [], a, _ => rfl
 | b :: r, a, h => by
  simp only [List.all_cons, Bool.and_eq_true] at h
  have hb : 48 ≤ b.toNat ∧ b.toNat ≤ 57 := by have := h.1; simpa [digit] using this
  have := decFrom_all r (a * 10 + (b.toNat - 48)) h.2
  rw [Nat.mul_comm a 10] at this
  simp only [Lib.decFrom, Lib.digitVal, if_pos hb, List.foldl_cons]
  rw [Nat.mul_comm a 10]; exact this
theorem decNat_all {l : Txt} (h : l.all digit = true) (h1 : 1 ≤ l.length) : Lib.decNat l = some (digitsVal l) := by
 unfold Lib.decNat
 rw [if_neg (by cases l <;> simp at h1 ⊢)]
 exact decFrom_all l 0 h
theorem atoi_num {s : Txt} (h : isNum s = true) : Lib.atoi s = some (numVal s) := by
 unfold numVal
 split
 ·rename_i h0; subst h0; rfl
 ·rename_i h0
  simp only [isNum, h0, decide_false, Bool.false_or, Bool.and_eq_true, decide_eq_true_eq] at h
  have h1 := decNat_all h.1.2 h.1.1.1
  cases s with
  | nil => simp [unsign] at h
  | cons b r =>
   simp only [List.getD_cons_zero] at *
   by_cases h45 : b.toNat = 45
   ·have hb : (b == 45) = true := by simpa using UInt8.toNat_inj.1 (by rw [h45]; rfl)
    have hu : unsign (b :: r) = r := by unfold unsign; simp [h45]
    rw [hu] at h1 ⊢
    simp only [Lib.atoi, hb, if_true, h1, h45]
    simp
   ·have hb : (b == 45) = false := by
     simp only [beq_eq_false_iff_ne]; intro e; exact h45 (by rw [e]; rfl)
    have hu : unsign (b :: r) = b :: r := by unfold unsign; simp [h45]
    rw [hu] at h1 h ⊢
    have hd : digit b = true := by have := h.1.2; simp only [List.all_cons, Bool.and_eq_true] at this; exact this.1
    have h43 : (b == 43) = false := by
     simp only [beq_eq_false_iff_ne]; intro e; rw [e] at hd; exact absurd hd (by decide)
    simp only [Lib.atoi, hb, h43, Bool.false_eq_true, if_false, h1, h45]
    simp
theorem f_number (s : Txt) (hs : isNum s = true) (I : Heap) (L : Own) : Fun Tryz.prog 24 [.string (str s)] I L (Only (.int .i64 (numVal s)) I L) := by
 have hat : Fun Tryz.prog 42 [.string (str s)] I L (Only (.tuple #[.int .i64 (numVal s), .nilIface]) I L) := by
  refine ⟨fun w hm => (Any.strconv_Atoi lays172 (str s) (numVal s) ?_ ?_ w).mono ?_⟩
  ·have := isNum_len hs
   show s.toArray.size ≤ 18
   simp; omega
  ·show Lib.atoi (s.toArray.toList) = _
   exact atoi_num hs
  ·rintro e w' ⟨rfl, t, rfl⟩
   exact ⟨_, I, L, rfl, .refl _, Mem.frozenAt (hm.alloc _), rfl, rfl, rfl⟩
 refine fun_intro (by simp) ?_
 refine Se rfl (Oa rfl (o_done (Se rfl (Om rfl ?_))))
 refine o_call rfl .free rfl hat ?_
 rintro _ _ _ _ ⟨rfl, rfl, rfl⟩
 refine Om rfl ?_
 refine o_extract rfl rfl .free rfl ?_
 refine o_extract rfl rfl .free rfl ?_
 refine Oa rfl (Oa rfl (o_done (Se rfl (Om rfl (Oa rfl (o_done ?_))))))
 refine s_ret (.tmp rfl .nil) ?_
 refine only rfl ?_
 simp [retOne, *]
theorem rep_is {I : Heap} {t u : Tree} {cs : List Value} (h : Rep I t cs) (e : t = u) : Rep I u cs := e ▸ h
/-- What a loop over the kids has gathered. -/
structure GK where
 i : Nat
 B : Buf
 c : Nat
def Ex.ks (e : Ex) : List Txt := e.sub.map fun a => a.tree.text
theorem Ex.ks_len (e : Ex) : e.ks.length = e.sub.length := by simp [Ex.ks]
theorem Ex.ks_sv {e : Ex} {i : Nat} (hi : i < e.sub.length) : (e.ks.take i).map sv ++ [sv e.sub[i].tree.text] = (e.ks.take (i + 1)).map sv := by
 rw [List.take_succ_eq_append_getElem (by rw [e.ks_len]; exact hi)]
 simp [Ex.ks]
theorem Ex.ks_each {e : Ex} (hl : e.tree.len ≤ 12000) : ∀ s ∈ e.ks, s.length ≤ maxN := by
 intro s hs
 obtain ⟨a, ha, rfl⟩ := List.mem_map.1 hs
 obtain ⟨i, hi, hp⟩ := sub_index ha
 have := e.tree.pt_len i hi
 rw [hp] at this
 rw [Tree.text_len]; unfold maxN; omega
theorem kid_mem {e : Ex} {j : Nat} (hj : j < e.sub.length) : (kids e.tree).getD j 0 ∈ kids e.tree := by
 have hkl := sub_len e
 rw [show (kids e.tree).getD j 0 = (kids e.tree)[j]'(by omega) by simp [show j < (kids e.tree).length by omega]]; exact List.getElem_mem _
theorem f_ExprKids (s : Txt) (hs : s.length ≤ maxN) (I : Heap) (L : Own) : Fun Tryz.prog 7 [.string (str s)] I L (EF (kidsOf s) L) := by
 refine fun_intro (by simp) ?_
 refine Se rfl (Oa rfl (Oa rfl (o_done (Se rfl (Om rfl ?_)))))
 refine o_call rfl .free rfl (f_readExpr s hs _ _) ?_
 rintro _ J _ hleJ ⟨t, cs, ok, rfl, hrep, rfl, hpf⟩
 obtain ⟨oc, cc, oaf, cf, rfl, hf⟩ := hrep.at'
 refine Om rfl ?_
 refine o_extract rfl rfl .free rfl ?_
 refine o_extract rfl rfl .free rfl ?_
 refine o_alloc .free rfl ?_
 intro b4
 refine o_st rfl rfl rfl rfl .free ?_
 refine Oa rfl (o_done (s_seq (Se rfl (Om rfl ?_))))
 refine o_not rfl .free rfl ?_
 refine o_done ?_
 refine s_cond rfl ?_ ?_
 ·intro c0
  try simp only [nb] at c0
  refine Se rfl (Oa rfl (Oa rfl (o_done ?_)))
  refine s_ret (.tmp rfl (.tmp rfl .nil)) ?_
  exact ⟨J, L, hleJ, drops, none, 0, by rw [kidsOf_none (RX_none hpf c0)]; rfl, by rw [kidsOf_none (RX_none hpf c0)]; exact strs_nil _, rfl⟩
 intro c0
 try simp only [nb] at c0
 obtain ⟨e, he, rfl, hok, hlen, hfine, htxt⟩ := RX_some hpf c0
 have hkl := sub_len e
 have hks := e.ks_len
 have hn3 : e.sub.length ≤ 3 := by cases e <;> simp [Ex.sub]
 have hko : kidsOf s = some e.ks := kidsOf_some he
 refine s_skip (Se rfl (Oa rfl (o_done (s_seq (Se rfl ?_)))))
 refine o_lOS rfl .free rfl ?_
 refine o_call rfl .free rfl (f_form_kids hf.rep _) ?_
 rintro _ J2 _ e2 ⟨okk, ck, rfl, hk, rfl⟩
 have hf := hf.mono e2
 refine o_len_slice rfl .free rfl ?_
 refine Om rfl (o_done (s_block ?_))
 refine s_while (X := GK) (fun x => e.sub.length - x.i) (fun x => [(4, .pointer (some ⟨b4, 0, none⟩)), (6, bufVal x.i x.c x.B), (17, .slice okk (kids e.tree).length ck), (18, .int .i64 ((kids e.tree).length : Nat)), (19, .int .i64 (x.i : Nat))]) (fun _ => J2) (fun x => (b4, .cells [.string (str e.tree.atom), .slice oc e.tree.parts.length cc].toArray 38 (0, 0)) :: (bufOwn 9 ((e.ks.take x.i).map sv) x.B ++ L)) (fun x => x.i ≤ e.sub.length ∧ BufOk 1 x.i x.c ((e.ks.take x.i).map sv) x.B) ⟨0, none, 0⟩ ⟨Nat.zero_le _, rfl, rfl, rfl⟩ ⟨rfl, rfl, rfl, rfl, rfl, trivial⟩ (by intro _ h; exact h) ?_
 rintro ⟨i, B, c⟩ ⟨hi, hB⟩ ih
 simp only at hi hB ih ⊢
 refine Se rfl ?_
 refine o_cmp rfl rfl rfl .free rfl ?_
 refine o_done (s_seq ?_)
 refine s_cond rfl ?_ ?_
 ·intro c1
  try simp only [nb] at c1
  have hi1 : i < e.sub.length := by omega
  have hkm := kid_mem hi1
  have hkt := (kids_lt hkm).1
  have hspt := sub_pt e i hi1
  have hel := Ex.ks_each hlen (e.sub[i].tree.text) (List.mem_map.2 ⟨_, List.getElem_mem hi1, rfl⟩)
  refine s_skip (s_seq (s_block (Se rfl ?_)))
  first | refine o_ixD rfl rfl _ rfl .free rfl ?_ | refine o_ixP rfl rfl _ rfl .free rfl ?_
  refine o_lI1 rfl .free rfl ?_
  refine Oa rfl (o_done ?_)
  refine o_enter rfl ?_
  refine Om rfl ?_
  refine o_fieldAddr rfl .free rfl ?_
  refine o_lO1 rfl .free rfl ?_
  refine Om rfl ?_
  first | refine o_ixD rfl rfl _ rfl .free rfl ?_ | refine o_ixP rfl rfl _ rfl .free rfl ?_
  refine o_lIS rfl .free rfl ?_
  refine o_call rfl .free rfl (f_form_text (rep_is (hf.rp _ hkt) hspt) hel _) ?_
  rintro _ _ _ _ ⟨rfl, rfl, rfl⟩
  refine o_lits rfl rfl (by rfl) (by rfl) (by rfl) (by decide) (by decide) (by rfl) .free rfl ?_
  intro b30
  refine o_append (B := B) (xs := (e.ks.take i).map sv) (ys := [sv e.sub[i].tree.text]) (m := i) (c := c) (by intro kk; simp) (by rfl) rfl rfl hB (fun _ h => h.u2) (by rfl) (fun a ha => by cases ha; exact reads_ownL (.head _) (by rfl)) (by simp) (by rfl) (by decide) (by decide) (by omega) (by decide) .free rfl ?_
  intro bb sp c2 hB'
  rw [Ex.ks_sv hi1] at hB' ⊢
  refine Oa rfl (o_done ?_)
  refine s_inBlock ?_
  refine o_enter rfl ?_
  refine o_arith rfl rfl rfl (by omega) .free rfl ?_
  refine Om rfl (o_done ?_)
  refine s_mem (fun w hw => Mem.sub (L' := (b4, _) :: (bb, _) :: L) (by repeat (first | exact List.Sublist.refl _ | apply List.Sublist.cons_cons | apply List.Sublist.cons)) hw.f2) (s_env (E' := [(4, .pointer (some ⟨b4, 0, none⟩)), (6, bufVal (i + 1) c2 (some (bb, sp))), (17, .slice okk (kids e.tree).length ck), (18, .int .i64 ((kids e.tree).length : Nat)), (19, .int .i64 ((i + 1 : Nat)))]) ⟨rfl, rfl, rfl, rfl, rfl, trivial⟩ (ih ⟨i + 1, some (bb, sp), c2⟩ ⟨by simp only; omega, hB'⟩ (by simp only; omega)))
 intro c1
 try simp only [nb] at c1
 obtain rfl : i = e.sub.length := by omega
 rw [List.take_of_length_le (by omega)] at hB
 rw [List.take_of_length_le (by omega)]
 refine s_exit rfl ?_
 refine Se rfl (Om rfl (Oa rfl (Oa rfl (o_done ?_))))
 refine s_mem (fun w h => h.u1) (s_freezeStrs hB hks.symm (by unfold maxN; omega) (Ex.ks_each hlen) ?_)
 intro J3 oz cz ez hbv hst
 refine s_put (t := 2) rfl hbv ?_
 refine s_ret (.tmp rfl (.tmp rfl .nil)) ?_
 exact ⟨J3, L, (hleJ.trans e2).trans ez, drops, oz, cz, by rw [hko]; rfl, by rw [hko]; exact hst, rfl⟩
theorem f_ExprHead (s : Txt) (hs : s.length ≤ maxN) (I : Heap) (L : Own) : Fun Tryz.prog 5 [.string (str s)] I L (fun v I' L' => v = .string (str (headOf s)) ∧ L = L') := by
 refine fun_intro (by simp) ?_
 refine Se rfl (Oa rfl (o_done (Se rfl (Om rfl ?_))))
 refine o_call rfl .free rfl (f_readExpr s hs _ _) ?_
 rintro _ J _ hleJ ⟨t, cs, ok, rfl, hrep, rfl, hpf⟩
 obtain ⟨oc, cc, oaf, cf, rfl, hf⟩ := hrep.at'
 refine Om rfl ?_
 refine o_extract rfl rfl .free rfl ?_
 refine o_extract rfl rfl .free rfl ?_
 refine o_alloc .free rfl ?_
 intro b3
 refine o_st rfl rfl rfl rfl .free ?_
 refine Oa rfl (o_done (s_seq (s_block (Se rfl (Om rfl ?_)))))
 refine o_not rfl .free rfl ?_
 refine Oa rfl (o_done ?_)
 refine s_cond rfl ?_ ?_
 ·intro c0
  try simp only [nb] at c0
  refine Se rfl (Oa rfl (o_done ?_))
  refine s_ret (.tmp rfl .nil) ?_
  refine ⟨J, L, hleJ, drops, ?_, rfl⟩
  have : exOf s = none := RX_none hpf c0
  rw [headOf, this]; rfl
 intro c0
 try simp only [nb] at c0
 obtain ⟨e, he, rfl, hok, hlen, hfine, htxt⟩ := RX_some hpf c0
 have hhe := headOf_some he
 refine Se rfl ?_
 refine o_lOS rfl .free rfl ?_
 refine o_call rfl .free rfl (f_form_isAtom hf.rep _) ?_
 rintro _ _ _ _ ⟨rfl, rfl, rfl⟩
 refine o_not rfl .free rfl ?_
 refine Oa rfl (o_done ?_)
 refine s_cond rfl ?_ ?_
 ·intro c1
  try simp only [nb] at c1
  refine Se rfl ?_
  refine o_lOS rfl .free rfl ?_
  refine o_call rfl .free rfl (f_form_head hf.rep _) ?_
  rintro _ _ _ _ ⟨rfl, rfl, rfl⟩
  refine Oa rfl (o_done ?_)
  refine s_ret (.tmp rfl .nil) ?_
  refine ⟨J, L, hleJ, drops, ?_, rfl⟩
  rw [hhe]
  cases e <;> first | rfl | cases c1
 intro c1
 try simp only [nb] at c1
 refine Se rfl ?_
 refine o_fieldAddr rfl .free rfl ?_
 refine o_lO1 rfl .free rfl ?_
 refine o_call rfl .free rfl (f_isName e.tree.atom (by have := e.tree.text_len; have := hf.rep.atom_le; exact this) _ _) ?_
 rintro _ _ _ _ ⟨rfl, rfl, rfl⟩
 refine Oa rfl (o_done ?_)
 refine s_cond rfl ?_ ?_
 ·intro c2
  try simp only [nb] at c2
  refine Se rfl (Oa rfl (o_done ?_))
  refine s_ret (.tmp rfl .nil) ?_
  refine ⟨J, L, hleJ, drops, ?_, rfl⟩
  rw [hhe]
  cases e with
  | name t => rfl
  | num t =>
   have h1 : isName t = true := c2
   have h2 := name_not_num h1
   rw [show isNum t = true from hok] at h2; cases h2
  | _ => cases c1
 intro c2
 try simp only [nb] at c2
 refine s_skip ?_
 refine s_inBlock ?_
 refine Se rfl (Oa rfl (o_done ?_))
 refine s_ret (.tmp rfl .nil) ?_
 refine ⟨J, L, hleJ, drops, ?_, rfl⟩
 rw [hhe]
 cases e with
 | num t => rfl
 | name t =>
  have h1 : isName t = true := hok
  rw [show isName (Ex.name t).tree.atom = isName t from rfl, h1] at c2; cases c2
 | _ => cases c1
/-- How far a count has come. -/
structure GM where
 i : Nat
 J : Heap
theorem x_sameTexts {I : Heap} {oa ob : Option Addr} {l m : List Txt} {c c' : Nat} (h : Strs I oa l c) (h' : Strs I ob m c') (L : Own) :
  Fun Tryz.prog 10 [.slice oa l.length c, .slice ob m.length c'] I L (Only (.bool (decide (l = m))) I L) := by
 have hlen := h.len
 have hlen' := h'.len
 unfold maxN at hlen hlen'
 refine fun_intro (by simp) ?_
 refine Se rfl (Oa rfl (o_done (s_seq (Se rfl (Om rfl ?_)))))
 refine o_len_slice rfl .free rfl ?_
 refine Om rfl ?_
 refine o_len_slice rfl .free rfl ?_
 refine o_cmp rfl rfl rfl .free rfl ?_
 refine o_done ?_
 refine s_cond rfl ?_ ?_
 ·intro c0
  try simp only [nb] at c0
  refine Se rfl (Oa rfl (o_done ?_))
  refine s_ret (.tmp rfl .nil) ?_
  refine only rfl ?_
  have : l ≠ m := by rintro rfl; exact c0 rfl
  simp [retOne, this]
 intro c0
 try simp only [nb] at c0
 refine s_skip (s_seq (Se rfl (Oa rfl (o_done (s_block ?_)))))
 refine s_while (X := Nat) (fun i => l.length - i) (fun i => [(0, .slice oa l.length c), (1, .slice ob m.length c'), (5, .int .i64 (i : Nat))]) (fun _ => I) (fun _ => L) (fun i => i ≤ l.length ∧ l.take i = m.take i) 0 ⟨Nat.zero_le _, by simp⟩ ⟨rfl, rfl, rfl, trivial⟩ (fun _ h => h) ?_
 rintro i ⟨hi, hs⟩ ih
 have hlm : l.length = m.length := by omega
 refine s_seq (Se rfl (Om rfl (Om rfl ?_)))
 refine o_len_slice rfl .free rfl ?_
 refine o_cmp rfl rfl rfl .free rfl ?_
 refine o_done ?_
 refine s_cond rfl ?_ ?_
 ·intro c1
  try simp only [nb] at c1
  have hi1 : i < l.length := by omega
  have hi2 : i < m.length := by omega
  have hst1 := h.st i hi1
  have hst2 := h'.st i hi2
  refine s_skip (s_seq (s_block (s_seq ?_)))
  refine d_all 9 rfl rfl ?_
  refine Da 0 rfl (y_move rfl) ?_
  refine Da 1 rfl (y_move rfl) ?_
  first | refine Da 2 rfl (y_ixD rfl rfl _ rfl) ?_ | refine Da 2 rfl (y_ixP rfl rfl _ rfl) ?_
  refine Dt 3 [9] rfl (y_lI1 rfl) ?_
  refine Da 4 rfl (y_move rfl) ?_
  refine Da 5 rfl (y_move rfl) ?_
  first | refine Da 6 rfl (y_ixD rfl rfl _ rfl) ?_ | refine Da 6 rfl (y_ixP rfl rfl _ rfl) ?_
  refine Dt 7 [9] rfl (y_lI1 rfl) ?_
  refine Da 8 rfl (y_cmps rfl rfl rfl) ?_
  refine d_done (by kernel_rfl) ?_
  refine s_cond rfl ?_ ?_
  ·intro c2
   try simp only [nb] at c2
   refine Se rfl (Oa rfl (o_done ?_))
   refine s_ret (.tmp rfl .nil) ?_
   refine only rfl ?_
   have : l ≠ m := by rintro rfl; exact c2 rfl
   simp [retOne, this]
  intro c2
  try simp only [nb] at c2
  refine s_skip ?_
  refine s_inBlock ?_
  refine o_enter rfl ?_
  refine Om rfl ?_
  refine o_arith rfl rfl rfl (by omega) .free rfl ?_
  refine Oa rfl (o_done ?_)
  refine s_env (E' := [(0, .slice oa l.length c), (1, .slice ob m.length c'), (5, .int .i64 ((i + 1 : Nat)))]) ⟨rfl, rfl, rfl, trivial⟩ (ih (i + 1) ⟨by omega, ?_⟩ (by omega))
  have hx : l[i] = m[i] := by simpa [hi1, hi2] using c2
  rw [List.take_succ_eq_append_getElem hi1, List.take_succ_eq_append_getElem hi2, hs, hx]
 intro c1
 try simp only [nb] at c1
 refine s_exit rfl ?_
 refine Se rfl (Oa rfl (o_done ?_))
 refine s_ret (.tmp rfl .nil) ?_
 refine only rfl ?_
 have : l = m := by
  have h1 : i = l.length := by omega
  rw [List.take_of_length_le (by omega), List.take_of_length_le (by omega)] at hs
  exact hs
 simp [retOne, this]
theorem g_ExprHead (s : Txt) (hs : s.length ≤ maxL) (I : Heap) (L : Own) : Fun Tryz.prog 6 [.string (str s)] I L (fun v I' L' => v = .string (str (headOf s)) ∧ L = L') := by
 refine fun_intro (by simp) ?_
 refine Se rfl (Oa rfl (o_done (Se rfl (Om rfl ?_))))
 refine o_call rfl .free rfl (g_l2Parse' s hs _ _) ?_
 rintro _ J _ hleJ ⟨t, cs, ok, rfl, hrep, rfl, hpf⟩
 obtain ⟨oc, cc, oaf, cf, rfl, hf⟩ := hrep.at'
 refine Om rfl ?_
 refine o_extract rfl rfl .free rfl ?_
 refine o_extract rfl rfl .free rfl ?_
 refine o_alloc .free rfl ?_
 intro b3
 refine o_st rfl rfl rfl rfl .free ?_
 refine Oa rfl (o_done (s_seq (Se rfl (Om rfl ?_))))
 refine o_not rfl .free rfl ?_
 refine o_done ?_
 refine s_cond rfl ?_ ?_
 ·intro c0
  try simp only [nb] at c0
  refine Se rfl (Oa rfl (o_done ?_))
  refine s_ret (.tmp rfl .nil) ?_
  refine ⟨J, L, hleJ, drops, ?_, rfl⟩
  have : exOf s = none := RX_none hpf c0
  rw [headOf, this]; rfl
 intro c0
 try simp only [nb] at c0
 obtain ⟨e, he, rfl, hok, hlen, hfine, htxt⟩ := RX_some hpf c0
 have hhe := headOf_some he
 have hat := e.atom_iff hok
 refine s_skip (s_seq (Se rfl ?_))
 refine o_fieldAddr rfl .free rfl ?_
 refine o_lO1 rfl .free rfl ?_
 refine o_cmps rfl rfl rfl .free rfl ?_
 refine o_done ?_
 refine s_cond rfl ?_ ?_
 ·intro c1
  try simp only [nb] at c1
  have hb : e.bare = false := hat.1 c1
  have h0 : 0 < e.tree.parts.length := by
   rw [Ex.bare_parts] at hb
   have : e.tree.parts ≠ [] := by intro hh; rw [hh] at hb; cases hb
   exact List.length_pos_iff.2 this
  refine Se rfl ?_
  refine o_fieldAddr rfl .free rfl ?_
  refine o_lO1 rfl .free rfl ?_
  first | refine o_ixD rfl rfl 0 rfl .free rfl ?_ | refine o_ixP rfl rfl 0 rfl .free rfl ?_
  refine o_fieldAddr' rfl .free rfl ?_
  refine o_lIF rfl .free rfl ?_
  refine Oa rfl (o_done ?_)
  refine s_ret (.tmp rfl .nil) ?_
  refine ⟨J, L, hleJ, drops, ?_, rfl⟩
  have hh : e.hd = (e.tree.pt 0).atom := by
   rw [← head_at h0]
   cases e <;> first | rfl | cases hb
  rw [hhe, hh]; rfl
 intro c1
 try simp only [nb] at c1
 have hb : e.bare = true := by
  cases hb : e.bare with
  | true => rfl
  | false => exact absurd (hat.2 hb) c1
 refine s_skip (s_seq (Se rfl ?_))
 refine o_fieldAddr rfl .free rfl ?_
 refine o_lO1 rfl .free rfl ?_
 refine o_call rfl .free rfl (g_l2Name e.tree.atom hf.alen _ _) ?_
 rintro _ _ _ _ ⟨rfl, rfl, rfl⟩
 refine o_done ?_
 refine s_cond rfl ?_ ?_
 ·intro c2
  try simp only [nb] at c2
  refine Se rfl (Oa rfl (o_done ?_))
  refine s_ret (.tmp rfl .nil) ?_
  refine ⟨J, L, hleJ, drops, ?_, rfl⟩
  rw [hhe]
  cases e with
  | name t => rfl
  | num t =>
   have h1 : isName t = true := c2
   have h2 := name_not_num h1
   rw [show isNum t = true from hok] at h2; cases h2
  | _ => cases hb
 intro c2
 try simp only [nb] at c2
 refine s_skip (Se rfl (Oa rfl (o_done ?_)))
 refine s_ret (.tmp rfl .nil) ?_
 refine ⟨J, L, hleJ, drops, ?_, rfl⟩
 rw [hhe]
 cases e with
 | num t => rfl
 | name t =>
  have h1 : isName t = true := hok
  rw [show isName (Ex.name t).tree.atom = isName t from rfl, h1] at c2; cases c2
 | _ => cases hb
theorem f_ExprNumber (s : Txt) (hs : s.length ≤ maxN) (I : Heap) (L : Own) : Fun Tryz.prog 8 [.string (str s)] I L (NR s I L) := by
 refine fun_intro (by simp) ?_
 refine Se rfl (Oa rfl (Oa rfl (o_done (s_seq (Se rfl (Om rfl ?_))))))
 refine o_call rfl .free rfl (f_isNumeral s hs _ _) ?_
 rintro _ _ _ _ ⟨rfl, rfl, rfl⟩
 refine o_not rfl .free rfl ?_
 refine o_done ?_
 refine s_cond rfl ?_ ?_
 ·intro c0
  try simp only [nb] at c0
  refine Se rfl (Oa rfl (Oa rfl (o_done ?_)))
  refine s_ret (.tmp rfl (.tmp rfl .nil)) ?_
  refine only rfl ?_
  rw [show isNum s = false by simpa using c0]; rfl
 intro c0
 try simp only [nb] at c0
 refine s_skip (Se rfl (Om rfl ?_))
 refine o_call rfl .free rfl (f_number s (by simpa using c0) _ _) ?_
 rintro _ _ _ _ ⟨rfl, rfl, rfl⟩
 refine Oa rfl (Oa rfl (o_done ?_))
 refine s_ret (.tmp rfl (.tmp rfl .nil)) ?_
 refine only rfl ?_
 rw [show isNum s = true by simpa using c0]; rfl
theorem head_facts {s : Txt} {e : Ex} (h : exOf s = some e) : (e.sub.length = 0 ↔ e.hd = [110, 97, 109, 101] ∨ e.hd = [110, 117, 109, 98, 101, 114]) ∧ (isNum s = true ↔ e.hd = [110, 117, 109, 98, 101, 114]) ∧ (e.hd = [110, 97, 109, 101] → e.free = [s]) := by
 obtain ⟨hf, hok, _, _, rfl⟩ := exOf_is h
 cases hb : e.bare with
 | false =>
  obtain ⟨h1, h2, h3⟩ := Ex.hd_bare hb
  refine ⟨⟨fun hl => ?_, fun hl => hl.elim (fun h => absurd h h1) (fun h => absurd h h2)⟩, ⟨fun hn => ?_, fun h => absurd h h2⟩, fun h => absurd h h1⟩
  ·cases e <;> first | (simp [Ex.sub] at hl; done) | cases hb
  ·have hx : exOf e.tree.text = some (.num e.tree.text) := by
    obtain ⟨d, hd, hbd, -⟩ := bareT_is (s := e.tree.text) (by unfold bareT; rw [hn]; rfl)
    rw [hd] at h
    obtain rfl := Option.some.inj h
    rw [hbd] at hb; cases hb
   rw [hx] at h
   have hh := Option.some.inj h
   rw [← hh] at hb
   cases hb
 | true =>
  cases e with
  | num s => exact ⟨⟨fun _ => .inr rfl, fun _ => rfl⟩, ⟨fun _ => rfl, fun _ => hok⟩, fun h => absurd h (by simp [Ex.hd])⟩
  | name s =>
   refine ⟨⟨fun _ => .inl rfl, fun _ => rfl⟩, ⟨fun hn => ?_, fun h => absurd h (by simp [Ex.hd])⟩, fun _ => rfl⟩
   have h2 := name_not_num (show isName s = true from hok)
   rw [show isNum s = true from hn] at h2; cases h2
  | _ => cases hb
theorem law_FnHead {I : Heap} {oa : Option Addr} {code : List UInt8} {c : Nat} (h : Bytes I oa code c) (L : Own) : Fun Tryz.prog 3 [.slice oa code.length c] I L (YES L) := by
 have hlen := h.len
 refine fun_intro (by simp) ?_
 refine Se rfl (Oa rfl (o_done (s_seq (Se rfl (Om rfl ?_)))))
 refine o_len_slice rfl .free rfl ?_
 refine o_cmp rfl rfl rfl .free rfl ?_
 refine o_done ?_
 refine s_cond rfl ?_ ?_
 ·intro c0
  try simp only [nb] at c0
  refine Se rfl (Oa rfl (o_done ?_))
  refine s_ret (.tmp rfl .nil) ?_
  exact ⟨I, L, .refl _, fun _ h => h, rfl, rfl⟩
 intro c0
 try simp only [nb] at c0
 refine s_skip (Se rfl (Om rfl ?_))
 refine o_call rfl .free rfl (g_DrawExprHead h _) ?_
 rintro _ J1 _ e1 ⟨s, rfl, hsl, rfl⟩
 have hs : s.length ≤ maxN := by unfold maxN; omega
 refine Oa rfl (o_done (Se rfl (Om rfl ?_)))
 refine o_call rfl .free rfl (f_ExprHead s hs _ _) ?_
 rintro _ J2 _ e2 ⟨rfl, rfl⟩
 refine Oa rfl (o_done (Se rfl (Om rfl ?_)))
 refine o_call rfl .free rfl (g_ExprHead s (maxN_maxL hs) _ _) ?_
 rintro _ J3 _ e3 ⟨rfl, rfl⟩
 have hle := (e1.trans e2).trans e3
 refine Oa rfl (o_done (s_seq (Se rfl (Om rfl (Om rfl ?_)))))
 refine o_cmps rfl rfl rfl .free rfl ?_
 refine Om rfl ?_
 apply o_or 24 27 rfl
 ·intro g6_4 hk
  try simp only [nb] at g6_4
  refine o_move rfl (.met rfl rfl) rfl ?_
  refine o_cmps rfl rfl rfl (.met rfl rfl) rfl ?_
  refine o_pick_false rfl rfl .free rfl ?_
  exact o_fin 2 rfl rfl hk
 ·intro _ hk
  refine o_skips 2 rfl ?_
  refine o_pick_true rfl rfl .free rfl ?_
  exact o_fin 2 rfl rfl hk
 refine o_done ?_
 refine s_cond rfl ?_ ?_
 ·intro c1
  try simp only [nb] at c1
  refine Se rfl (Om rfl (Om rfl ?_))
  refine o_cmps rfl rfl rfl .free rfl ?_
  refine Oa rfl (o_done ?_)
  refine s_ret (.tmp rfl .nil) ?_
  refine ⟨J3, L, hle, drops, ?_, rfl⟩
  simp [retOne]
 intro c1
 try simp only [nb] at c1
 obtain ⟨e, he⟩ : ∃ e, exOf s = some e := by
  cases he : exOf s with
  | none => exact absurd (show headOf s = [] by unfold headOf; rw [he]) (by simpa using c1)
  | some e => exact ⟨e, rfl⟩
 have hhd := headOf_some he
 have hko := kidsOf_some he
 have hfo := freeOf_some he
 obtain ⟨q1, q2, q3⟩ := head_facts he
 clear c1
 rw [hhd]
 refine s_skip (Se rfl (Om rfl ?_))
 refine o_call rfl .free rfl (f_ExprKids s hs _ _) ?_
 rintro _ J4 _ e4 ⟨ok, ck, rfl, hkS, rfl⟩
 rw [hko] at hkS
 rw [hko]
 simp only [Option.getD_some, Option.isSome_some] at hkS ⊢
 refine Om rfl ?_
 refine o_extract rfl rfl .free rfl ?_
 refine o_extract rfl rfl .free rfl ?_
 refine Oa rfl (Oa rfl (o_done (Se rfl (Om rfl ?_))))
 refine o_call rfl .free rfl (f_ExprNumber s hs _ _) ?_
 rintro _ _ _ _ ⟨rfl, rfl, rfl⟩
 refine Om rfl ?_
 refine o_extract rfl rfl .free rfl ?_
 refine o_extract rfl rfl .free rfl ?_
 refine Oa rfl (Oa rfl (o_done (Se rfl (Om rfl ?_))))
 refine o_call rfl .free rfl (f_ExprFree s hs _ _) ?_
 rintro _ J5 _ e5 ⟨of, cf, rfl, hfS, rfl⟩
 rw [hfo] at hfS
 rw [hfo]
 simp only [Option.getD_some, Option.isSome_some] at hfS ⊢
 have hle := (hle.trans e4).trans e5
 refine Om rfl ?_
 refine o_extract rfl rfl .free rfl ?_
 refine o_extract rfl rfl .free rfl ?_
 refine Oa rfl (Oa rfl (o_done (Se rfl (Om rfl (Om rfl ?_)))))
 apply o_and 47 49 rfl
 ·intro g11_2 hk
  try simp only [nb] at g11_2
  refine o_move rfl (.met rfl rfl) rfl ?_
  refine o_pick_true rfl rfl .free rfl ?_
  exact o_fin 1 rfl rfl hk
 ·intro _ hk
  refine o_skips 1 rfl ?_
  refine o_pick_false rfl rfl .free rfl ?_
  exact o_fin 1 rfl rfl hk
 refine Om rfl ?_
 apply o_and 50 61 rfl
 ·intro g11_5 hk
  try simp only [nb] at g11_5
  refine o_move rfl (.met rfl rfl) rfl ?_
  refine o_len_slice rfl (.met rfl rfl) rfl ?_
  refine o_cmp rfl rfl rfl (.met rfl rfl) rfl ?_
  refine o_move rfl (.met rfl rfl) rfl ?_
  refine o_cmps rfl rfl rfl (.met rfl rfl) rfl ?_
  refine o_move rfl (.met rfl rfl) rfl ?_
  apply o_or 56 59 rfl
  ·intro g11_11 hk
   try simp only [nb] at g11_11
   refine o_move rfl (.met rfl rfl) rfl ?_
   refine o_cmps rfl rfl rfl (.met rfl rfl) rfl ?_
   refine o_pick_false rfl rfl (.met rfl rfl) rfl ?_
   exact o_fin 2 rfl rfl hk
  ·intro _ hk
   refine o_skips 2 rfl ?_
   refine o_pick_true rfl rfl (.met rfl rfl) rfl ?_
   exact o_fin 2 rfl rfl hk
  refine o_cmpb rfl rfl rfl (.met rfl rfl) rfl ?_
  refine o_pick_true rfl rfl .free rfl ?_
  exact o_fin 8 rfl rfl hk
 ·intro _ hk
  refine o_skips 10 rfl ?_
  refine o_pick_false rfl rfl .free rfl ?_
  exact o_fin 10 rfl rfl hk
 refine Om rfl ?_
 apply o_and 62 67 rfl
 ·intro g11_17 hk
  try simp only [nb] at g11_17
  refine o_move rfl (.met rfl rfl) rfl ?_
  refine o_move rfl (.met rfl rfl) rfl ?_
  refine o_cmps rfl rfl rfl (.met rfl rfl) rfl ?_
  refine o_cmpb rfl rfl rfl (.met rfl rfl) rfl ?_
  refine o_pick_true rfl rfl .free rfl ?_
  exact o_fin 4 rfl rfl hk
 ·intro _ hk
  refine o_skips 4 rfl ?_
  refine o_pick_false rfl rfl .free rfl ?_
  exact o_fin 4 rfl rfl hk
 refine Om rfl ?_
 apply o_and 68 77 rfl
 ·intro g11_23 hk
  try simp only [nb] at g11_23
  refine o_move rfl (.met rfl rfl) rfl ?_
  refine o_cmps rfl rfl rfl (.met rfl rfl) rfl ?_
  refine o_move rfl (.met rfl rfl) rfl ?_
  apply o_or 71 76 rfl
  ·intro g11_26 hk
   try simp only [nb] at g11_26
   refine o_move rfl (.met rfl rfl) rfl ?_
   refine o_move rfl (.met rfl rfl) rfl ?_
   refine o_lits rfl rfl (by rfl) (by rfl) (by rfl) (by decide) (by decide) (by rfl) (.met rfl rfl) rfl ?_
   intro b74
   refine o_freezeLit [s] (by simp [maxN]) (by simpa using hs) ?_
   intro J6 e6 k1
   refine o_call rfl (.met rfl rfl) rfl (x_sameTexts (hfS.mono e6) k1 _) ?_
   rintro _ _ _ _ ⟨rfl, rfl, rfl⟩
   refine o_mem (fun w h => Mem.le e6 h) ?_
   refine o_pick_false rfl rfl (.met rfl rfl) rfl ?_
   exact o_fin 4 rfl rfl hk
  ·intro _ hk
   refine o_skips 4 rfl ?_
   refine o_pick_true rfl rfl (.met rfl rfl) rfl ?_
   exact o_fin 4 rfl rfl hk
  refine o_pick_true rfl rfl .free rfl ?_
  exact o_fin 4 rfl rfl hk
 ·intro _ hk
  refine o_skips 8 rfl ?_
  refine o_pick_false rfl rfl .free rfl ?_
  exact o_fin 8 rfl rfl hk
 refine Oa rfl (o_done ?_)
 refine s_ret (.tmp rfl .nil) ?_
 refine ⟨J5, L, hle, drops, ?_, rfl⟩
 by_cases hn : e.hd = [110, 97, 109, 101]
 ·have hm : ¬ e.hd = [110, 117, 109, 98, 101, 114] := by rw [hn]; decide
  have hz : e.sub.length = 0 := q1.2 (.inl hn)
  have hq : isNum s = false := by cases hq : isNum s with | true => exact absurd (q2.1 hq) hm | false => rfl
  simp [retOne, hn, hz, hq, q3 hn]
 ·by_cases hm : e.hd = [110, 117, 109, 98, 101, 114]
  ·have hz : e.sub.length = 0 := q1.2 (.inr hm)
   have hq : isNum s = true := q2.2 hm
   simp [retOne, hm, hz, hq]
  ·have hz : ¬ e.sub.length = 0 := fun h => (q1.1 h).elim hn hm
   have hq : isNum s = false := by cases hq : isNum s with | true => exact absurd (q2.1 hq) hm | false => rfl
   simp [retOne, hm, hn, hz, hq]
end Go.Proofs.YtjgalbkfmmjjmaaGreatDoor
